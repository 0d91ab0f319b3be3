/-
A region whose order the machine may choose: the walk through any order.
-/
import Derived.Test.YtggkeechdakccaaFlatM3
import Derived.LoopN
import Derived.Scope
import Derived.DataReads
import Derived.ChangeArms
import Derived.ChangeOld
import Derived.WideShapes
import Derived.OpenShut
import Derived.Below
import Derived.Sort.Row
import Derived.Sort.Grow
import Derived.Lib.SlicesCompact
import Derived.Laws.IdiomCopy
set_option linter.unusedVariables false
set_option linter.unusedSimpArgs false
namespace Go.Proofs.Ytggkeechdakccaa.Flat
section
variable {E : Env} {Φ : Phi} {ops : Array Oper} {st' : St} {X : Nat → Prop} {N : Nat} {a : Act} {w : World} {G : Gh} {fl al : List Nat} {Ea : Nat → Prop} {xb : List (Nat × AV) × List (Nat × List AV)} {nm : Nat → Nat}
def Lst (listed : Array Bool) (i : Nat) : Prop := listed.getD i false = true
theorem topo_all {L : Nat → Prop} : ∀ {seen : List (Nat × List Nat)}, Topo ops seen → (∀ i o, ops[i]? = some o → (∀ d ∈ deps o, L d) → L i) → ∀ i, (look i seen).isSome = true → L i
  | [], _, _, i, h => by simp [look] at h
  | (j, l) :: r, ht, hr, i, h => by
    have ih := topo_all ht.2 hr
    rcases in_cons h with rfl | h
    · obtain ⟨o, ho, hd⟩ := ht.1
      exact hr i o ho fun d hd' => ih d (hd d hd')
    · exact ih i h
theorem act_eq {a b : Act} (hd : a.defers = b.defers) (ht : ∀ t : Nat, a.tmps[t]? = b.tmps[t]?) : a = b := by
  cases a; cases b
  simp only at hd ht
  subst hd
  congr 1
  exact Array.ext_getElem? ht
theorem topo_deps : ∀ {seen : List (Nat × List Nat)}, Topo ops seen → ∀ i o, (look i seen).isSome = true → ops[i]? = some o → ∀ d ∈ deps o, (look d seen).isSome = true
  | [], _, i, o, h, _, d, _ => by simp [look] at h
  | (j, l) :: r, ht, i, o, h, ho, d, hd => by
    rcases in_cons h with rfl | h
    · obtain ⟨o', ho', h2⟩ := ht.1
      obtain rfl : o = o' := by rw [ho] at ho'; exact Option.some.inj ho'
      exact in_tail (h2 d hd)
    · exact in_tail (topo_deps ht.2 i o h ho d hd)
theorem Vir.unseen [Kept] {L : Nat → Prop} {ρ : List (Qt × Nat)} {seen : List (Nat × List Nat)} {last : Option Nat} {nid : Nat} {V : St} {b : Act}
    (h : Vir E Φ ops X st' N fl al Ea xb L a w G ρ seen last nid V b nm) {i : Nat} (hi : Ea i) : look i seen = none := by
  obtain ⟨hal, ⟨q, hq⟩, _⟩ := h.early i hi
  obtain ⟨_, _, _, _, _, h3, _⟩ := planOK_early h.plan q i hq hal
  exact h3
theorem Vir.final [Kept] {L : Nat → Prop} {listed : Array Bool} {ρ : List (Qt × Nat)} {seen : List (Nat × List Nat)} {last : Option Nat} {nid : Nat} {V : St} {b : Act}
    (h : Vir E Φ ops X st' N fl al Ea xb L a w G ρ seen last nid V b nm) (hLE : ∀ j, Lst listed j ↔ L j ∨ Ea j) (hs : listed.size = ops.size) (hat : AtEff ops fl Ea ρ) (hr : Region.ready .any ops listed = []) : Rel st' a w G X (fun i => N ≤ i) := by
  have hready : ∀ i o, ops[i]? = some o → (∀ d ∈ deps o, Lst listed d) → Lst listed i := by
    intro i o ho hd
    refine Classical.byContradiction fun hn => ?_
    have : i ∈ Region.ready .any ops listed := (mem_ready hs).2 ⟨(Array.getElem?_eq_some_iff.1 ho).1, hn, o, ho, hd⟩
    rw [hr] at this
    simp at this
  have hall := topo_all h.topo hready
  have hallL : ∀ i, (look i seen).isSome = true → L i := fun i hi => ((hLE i).1 (hall i hi)).resolve_right fun h9 => by rw [h.unseen h9] at hi; simp at hi
  rcases hat with rfl | ⟨q, i, r, o, rfl, ho, he, hEi⟩
  · have hev := h.ev
    simp only [evPlan, Option.some.injEq] at hev
    subst hev
    have hnE : ∀ j, ¬ Ea j := fun j hj => by
      obtain ⟨_, ⟨q, hq⟩, _⟩ := h.early j hj
      simp at hq
    have hnS : ∀ t, ¬ Slotted ops Ea t := fun t ⟨j, _, hj, _⟩ => hnE j hj
    obtain rfl : a = b := act_eq h.defers fun t => h.agree t fun i o hi hn _ => absurd (hallL i hi) hn
    have := h.count
    refine h.rel.like rfl (fun t => .inl ?_) (fun id cs hc => box_ext hc) fun i hi => ⟨.inl (by simp at this; omega), fun ⟨j, hj, _⟩ => hnE j hj⟩
    rw [get_ext fun q hq e => hnS _ (h.slots q hq), get_drop]
    rintro (⟨i, o, hi, hn, _⟩ | h9)
    · exact hn (hallL i hi)
    · exact hnS _ h9
  · obtain ⟨o', ho', hh⟩ := planOK_head h.plan
    obtain rfl : o = o' := by rw [ho] at ho'; exact Option.some.inj ho'
    have hl := hready i o ho fun d hd => hall d (hh.dep d hd)
    have := h.Lin i (((hLE i).1 hl).resolve_right hEi)
    rw [hh.new] at this
    simp at this
theorem lst_set {listed : Array Bool} {i j : Nat} (hi : i < listed.size) : Lst (listed.setIfInBounds i true) j ↔ j = i ∨ Lst listed j := by
  unfold Lst
  rw [Array.getD_eq_getD_getElem?, Array.getElem?_setIfInBounds, Array.getD_eq_getD_getElem?]
  by_cases h : i = j
  · subst h; simp [hi]
  · rw [if_neg h]
    constructor
    · exact .inr
    · rintro (h1 | h1)
      · exact absurd h1.symm h
      · exact h1
def plus (L : Nat → Prop) (i j : Nat) : Prop := L j ∨ j = i
theorem closed_plus {L : Nat → Prop} {i : Nat} {o : Oper} (hc : Closed ops L) (ho : ops[i]? = some o) (hd : ∀ d ∈ deps o, L d) : Closed ops (plus L i) := by
  intro j p hj hp d hdp
  refine .inl ?_
  rcases hj with hj | rfl
  · exact hc j p hj hp d hdp
  · obtain rfl : o = p := by rw [ho] at hp; exact Option.some.inj hp
    exact hd d hdp
theorem agree_put {a b : Act} {dst : Option Nat} {v : Value} {t : Nat} (hs : a.tmps.size = b.tmps.size) (h : dst ≠ some t → a.tmps[t]? = b.tmps[t]?) : (a.put dst v).tmps[t]? = (b.put dst v).tmps[t]? := by
  cases dst with
  | none => exact h (by simp)
  | some d =>
    rw [put_getElem?, put_getElem?, hs]
    split
    · rfl
    · rename_i hne
      exact h fun e => hne (Option.some.inj e)
theorem Vir.pending [Kept] {L : Nat → Prop} {ρ : List (Qt × Nat)} {seen : List (Nat × List Nat)} {last : Option Nat} {nid : Nat} {V : St} {b : Act} {i : Nat} {o : Oper} {cv : Value} {w' : World} {G' : Gh}
    (h : Vir E Φ ops X st' N fl al Ea xb L a w G ρ seen last nid V b nm) (ho : ops[i]? = some o) (hd : ∀ d ∈ deps o, L d) (hin : (look i seen).isSome = true)
    (hrel : Rel ((V.drop fun t => Pend ops fl seen (plus L i) t ∨ Slotted ops Ea t).ext xb) (b.put o.dst cv) w' G' X (fun k => FreeN fl seen (plus L i) nm nid k ∧ ¬ Named ρ nid Ea k)) :
    Vir E Φ ops X st' N fl al Ea xb (plus L i) (a.put o.dst cv) w' G' ρ seen last nid V (b.put o.dst cv) nm where
  plan := h.plan
  tab := h.tab
  cov := h.cov
  topo := h.topo
  Lin := fun j hj => by
    rcases hj with hj | rfl
    · exact h.Lin j hj
    · exact hin
  eff := fun j p hj hp he => .inl (h.eff j p hj hp he)
  lastL := fun e he => .inl (h.lastL e he)
  closed := closed_plus h.closed ho hd
  rel := hrel
  bare := h.bare
  slots := h.slots
  early := h.early
  closedE := fun j p hj hp k hk => (h.closedE j p hj hp k hk).imp .inl id
  ev := h.ev
  count := h.count
  defers := by rw [actPut_defers, actPut_defers]; exact h.defers
  size := by rw [actPut_size, actPut_size]; exact h.size
  agree := fun t ht => agree_put h.size fun hne => h.agree t fun j p hj hl hp => by
    by_cases hji : j = i
    · subst hji
      obtain rfl : o = p := by rw [ho] at hp; exact Option.some.inj hp
      exact hne
    · exact ht j p hj (fun hl' => hl'.elim hl hji) hp
  stab := fun j p hj hl hp hf => h.stab j p hj (fun hl' => hl (.inl hl')) hp hf
  flo := fun j p hj hl hp hf => h.flo j p hj (fun hl' => hl (.inl hl')) hp hf
  nmlt := h.nmlt
  nmdis := h.nmdis
  lits := h.lits
theorem pend_plus {L : Nat → Prop} {seen : List (Nat × List Nat)} {i : Nat} (hfl : fl.contains i = false) (t : Nat) : Pend ops fl seen (plus L i) t ↔ Pend ops fl seen L t := by
  constructor
  · rintro ⟨j, p, hj, h1, h2⟩
    exact ⟨j, p, hj, fun hl => h1 (.inl hl), h2⟩
  · rintro ⟨j, p, hj, h1, h2⟩
    refine ⟨j, p, hj, fun hl => ?_, h2⟩
    rcases hl with hl | rfl
    · exact h1 hl
    · rw [hfl] at h2; simp at h2
theorem free_plus {L : Nat → Prop} {seen : List (Nat × List Nat)} {i nid k : Nat} (h : FreeN fl seen (plus L i) nm nid k) : FreeN fl seen L nm nid k :=
  h.imp id fun ⟨j, hj, h1, h2⟩ => ⟨j, hj, fun hl => h1 (.inl hl), h2⟩
theorem Vir.effect [Kept] {L : Nat → Prop} {q : Qt} {i : Nat} {r : List (Qt × Nat)} {seen : List (Nat × List Nat)} {last : Option Nat} {nid : Nat} {V V' : St} {b : Act} {o : Oper} {v : Value} {w' : World} {G' : Gh}
    (h : Vir E Φ ops X st' N fl al Ea xb L a w G ((q, i) :: r) seen last nid V b nm) (ho : ops[i]? = some o) (he : hard fl i o = true) (hEi : ¬ Ea i) (hd : ∀ d ∈ deps o, L d)
    (hrel : Rel ((V'.drop fun t => Pend ops fl seen L t ∨ Slotted ops Ea t).ext xb) (b.put o.dst v) w' G' X (fun k => (FreeN fl seen L nm nid k ∧ ¬ Named ((q, i) :: r) nid Ea k) ∧ ¬ (nid ≤ k ∧ k < nid + 8))) (htree : V'.tree = V.tree) (hev : evPlan E Φ ops.toList r (nid + 8) V' = some st') (hq : q = .quiet ∨ q = .still → Quiet V V' o.dst) (hqs : ∀ ld l, q = .soft ld l → Soft V V' o.dst ld l) (hbox : ∀ j, Ea j → V'.box (nameIn r (nid + 8) j) = none) :
    Vir E Φ ops X st' N fl al Ea xb (plus L i) (a.put o.dst v) w' G' r ((i, ancOf seen o) :: seen) (if hard fl i o && !al.contains i then some i else last) (nid + 8) V' (b.put o.dst v) nm := by
  obtain ⟨o', ho', hh⟩ := planOK_head h.plan
  obtain rfl : o = o' := by rw [ho] at ho'; exact Option.some.inj ho'
  have hpend : ∀ j, (look j ((i, ancOf seen o) :: seen)).isSome = true → ¬ plus L i j → (look j seen).isSome = true ∧ ¬ L j := by
    intro j hj hl
    refine ⟨(in_cons hj).resolve_left fun e => hl (.inr e), fun hl' => hl (.inl hl')⟩
  have hfl : fl.contains i = false := by
    cases hc : fl.contains i with
    | false => rfl
    | true => rw [not_hard hc] at he; simp at he
  have hnt : V'.nt = V.nt := by
    have h1 := hrel.size
    have h2 := h.rel.size
    rw [actPut_size, nt_ext, nt_drop] at h1
    rw [nt_ext, nt_drop] at h2
    omega
  have hpend2 : ∀ t, Pend ops fl ((i, ancOf seen o) :: seen) (plus L i) t ↔ Pend ops fl seen L t := fun t => (pend_cons hfl).trans (pend_plus hfl t)
  exact {
    plan := hh.tail
    tab := h.tab.cons ho
    cov := cov_cons h.cov ho (hh.cov h.tab)
    topo := ⟨⟨o, ho, hh.dep⟩, h.topo⟩
    Lin := fun j hj => by
      rcases hj with hj | rfl
      · exact in_tail (h.Lin j hj)
      · rw [look_cons, if_pos rfl]; rfl
    eff := fun j p hj hp hep => (in_cons hj).elim .inr fun hj => .inl (h.eff j p hj hp hep)
    lastL := fun e h9 => by
      split at h9
      · obtain rfl := Option.some.inj h9; exact .inr rfl
      · exact .inl (h.lastL e h9)
    closed := closed_plus h.closed ho hd
    rel := by
      rw [drop_congr fun t => or_congr (hpend2 t) Iff.rfl]
      refine hrel.weaken fun k hk => ?_
      have hnn : ¬ Named ((q, i) :: r) nid Ea k := fun h9 => hk.2 ((named_cons hEi).1 h9)
      rcases hk.1 with hk | ⟨j, hj, h1, h2, h3, h4⟩
      · exact ⟨⟨.inl (by omega), hnn⟩, by omega⟩
      · obtain ⟨hj', hl'⟩ := hpend j hj h1
        have := h.nmlt j hj' h2
        exact ⟨⟨.inr ⟨j, hj', hl', h2, h3, h4⟩, hnn⟩, by omega⟩
    bare := h.bare
    slots := h.slots
    early := fun j hj => by
      have hji : j ≠ i := fun e => hEi (e ▸ hj)
      obtain ⟨h1, ⟨q', h2⟩, p, d', cs, h3, h4, h5, h6, h7, h8⟩ := h.early j hj
      rw [nameIn_ne hji] at h6 h7
      exact ⟨h1, ⟨q', (List.mem_cons.1 h2).resolve_left fun e => hji (Prod.mk.inj e).2⟩, p, d', cs, h3, h4, h5, h6, h7, hbox j hj⟩
    closedE := fun j p hj hp k hk => (h.closedE j p hj hp k hk).imp .inl id
    ev := hev
    count := by have := h.count; simp only [List.length_cons] at this; omega
    defers := by rw [actPut_defers, actPut_defers]; exact h.defers
    size := by rw [actPut_size, actPut_size]; exact h.size
    agree := fun t ht => agree_put h.size fun _ => h.agree t fun j p hj hl hp => by
      by_cases hji : j = i
      · subst hji; rw [hh.new] at hj; simp at hj
      · exact ht j p (in_tail hj) (fun hl' => hl'.elim hl hji) hp
    stab := fun j p hj hl hp hjf => by
      obtain ⟨hj', hl'⟩ := hpend j hj hl
      have hbar' : ∀ hbar : (∀ j p, (look j seen).isSome = true → ops[j]? = some p → j ∈ ancOf seen o ∨ hard fl j p = true), Stable E Φ ops V' p := fun hbar => by
        rcases hbar j p hj' hp with h1 | h1
        · exact absurd (anc_in h.tab h.closed hd j h1) hl'
        · exact absurd (h.eff j p hj' hp h1) hl'
      rcases hh.war with hw9 | hw9
      · exact hbar' hw9.2.2
      rcases hh.eff he with hqt | ⟨ld, l, hqt, hsoft⟩ | hbar
      · obtain ⟨p', hp', hwar⟩ := hw9 j hj'
        obtain rfl : p = p' := by rw [hp] at hp'; exact Option.some.inj hp'
        exact (h.stab j p hj' hl' hp hjf).mono (hq hqt) hwar
      · obtain ⟨p', hp', hwar⟩ := hw9 j hj'
        obtain rfl : p = p' := by rw [hp] at hp'; exact Option.some.inj hp'
        rcases hsoft j p hj' hp with h1 | h1 | ⟨h1, h2, h3⟩
        · exact absurd (anc_in h.tab h.closed hd j h1) hl'
        · exact absurd (h.eff j p hj' hp h1) hl'
        · exact (h.stab j p hj' hl' hp hjf).soft (hqs ld l hqt) h1 h2 h3 hwar
      · exact hbar' hbar
    flo := fun j p hj hl hp hjf => by
      obtain ⟨hj', hl'⟩ := hpend j hj hl
      have hbar' : ∀ hbar : (∀ j p, (look j seen).isSome = true → ops[j]? = some p → j ∈ ancOf seen o ∨ hard fl j p = true), Floats E Φ ops V' p (nm j) := fun hbar => by
        rcases hbar j p hj' hp with h1 | h1
        · exact absurd (anc_in h.tab h.closed hd j h1) hl'
        · exact absurd (h.eff j p hj' hp h1) hl'
      rcases hh.war with hw9 | hw9
      · exact hbar' hw9.2.2
      rcases hh.eff he with hqt | ⟨ld, l, hqt, hsoft⟩ | hbar
      · obtain ⟨p', hp', hwar⟩ := hw9 j hj'
        obtain rfl : p = p' := by rw [hp] at hp'; exact Option.some.inj hp'
        exact (h.flo j p hj' hl' hp hjf).mono htree hnt (fun t ht => (hq hqt).1 t fun e => (hwar t e).1 ht) fun d hd => (hq hqt).1 d fun e => (hwar d e).2 hd
      · obtain ⟨p', hp', hwar⟩ := hw9 j hj'
        obtain rfl : p = p' := by rw [hp] at hp'; exact Option.some.inj hp'
        rcases hsoft j p hj' hp with h1 | h1 | ⟨h1, h2, d', h3, h4⟩
        · exact absurd (anc_in h.tab h.closed hd j h1) hl'
        · exact absurd (h.eff j p hj' hp h1) hl'
        · refine (h.flo j p hj' hl' hp hjf).mono htree hnt (fun t ht => (hqs ld l hqt).1 t (h2 t ht) fun e => (hwar t e).1 ht) fun d hd => (hqs ld l hqt).1 d ?_ fun e => (hwar d e).2 hd
          rw [hd] at h3; obtain rfl := Option.some.inj h3; exact h4
      · exact hbar' hbar
    nmlt := fun j hj hjf => by
      rcases in_cons hj with rfl | hj
      · rw [hfl] at hjf; simp at hjf
      · have := h.nmlt j hj hjf; omega
    nmdis := fun j k hj hk hjf hkf hne => by
      rcases in_cons hj with rfl | hj
      · rw [hfl] at hjf; simp at hjf
      rcases in_cons hk with rfl | hk
      · rw [hfl] at hkf; simp at hkf
      exact h.nmdis j k hj hk hjf hkf hne
    lits := h.lits }
theorem Vir.bare0 [Kept] {L : Nat → Prop} {ρ : List (Qt × Nat)} {seen : List (Nat × List Nat)} {last : Option Nat} {nid : Nat} {V : St} {b : Act}
    (h : Vir E Φ ops X st' N fl al Ea xb L a w G ρ seen last nid V b nm) (hn : ∀ j, ¬ Ea j) : Vir E Φ ops X st' N fl al Ea ([], []) L a w G ρ seen last nid V b nm :=
  { h with
    rel := by
      refine h.rel.like rfl (fun t => .inl ?_) (fun id cs hc => ?_) fun _ hk => hk
      · rw [get_ext (xb := ([], [])) (fun q hq => by simp at hq), get_ext fun q hq e => by obtain ⟨j, _, hj, _⟩ := h.slots q hq; exact hn j hj]
      · refine box_ext ?_
        have hc' : look id (V.bx ++ []) = some cs := hc
        rw [List.append_nil] at hc'
        exact hc'
    bare := ⟨fun _ h9 => by simp at h9, fun _ h9 => by simp at h9⟩
    slots := fun _ h9 => by simp at h9
    early := fun j hj => absurd hj (hn j) }
theorem ext_nil {s : St} : s.ext ([], []) = s := by
  unfold St.ext
  simp only [List.append_nil]
theorem StillOp.drop {o : Oper} {s : St} {p : Nat → Prop} (h : StillOp E o s) (hl : ∀ t, p t → t ∉ tmpsOf o.op) : StillOp E o (s.drop p) := by
  have hv : ∀ x ∈ o.op.operands.toList, (s.drop p).val x = s.val x := fun x hx => val_drop fun t ht hp => hl t hp (mem_tmpsOf (ht ▸ hx))
  intro f as ts hop n caps hvf hm
  have hargs : as.toList.map (s.drop p).val = as.toList.map s.val := List.map_congr_left fun x hx => hv x (by rw [hop]; simp only [Op.operands, Call.operands]; simp; exact .inr (by simpa using hx))
  rw [hargs]
  rw [hv f (by rw [hop]; simp [Op.operands, Call.operands])] at hvf
  exact h f as ts hop n caps hvf hm
theorem Vir.early1 [Kept] {L : Nat → Prop} {ρ : List (Qt × Nat)} {seen : List (Nat × List Nat)} {last : Option Nat} {nid : Nat} {V : St} {b : Act} {q : Qt} {i d : Nat} {o : Oper} {cs : List AV} {cv : Value} {w' : World} {G' : Gh}
    (h : Vir E Φ ops X st' N fl al Ea xb L a w G ρ seen last nid V b nm) (hm : (q, i) ∈ ρ) (hal : al.contains i = true) (ho : ops[i]? = some o) (hEi : ¬ Ea i) (hd : ∀ d ∈ deps o, L d ∨ Ea d) (hdst : o.dst = some d) (hcs : newCells E.P o = some cs) (hrows : AV.rowss cs = []) (hnb : V.box (nameIn ρ nid i) = none)
    (hrel : Rel { (V.drop fun t => Pend ops fl seen L t ∨ Slotted ops Ea t).ext xb with sl := (d, .ptr (nameIn ρ nid i) 0) :: ((V.drop fun t => Pend ops fl seen L t ∨ Slotted ops Ea t).ext xb).sl, bx := (nameIn ρ nid i, cs) :: ((V.drop fun t => Pend ops fl seen L t ∨ Slotted ops Ea t).ext xb).bx } (b.put o.dst cv) w' G' X (fun k => (FreeN fl seen L nm nid k ∧ ¬ Named ρ nid Ea k) ∧ ¬ (nameIn ρ nid i ≤ k ∧ k < nameIn ρ nid i + 8))) :
    Vir E Φ ops X st' N fl al (plus Ea i) ((d, .ptr (nameIn ρ nid i) 0) :: xb.1, (nameIn ρ nid i, cs) :: xb.2) L (a.put o.dst cv) w' G' ρ seen last nid V (b.put o.dst cv) nm := by
  have hslot : ∀ t, t ≠ d → (Slotted ops (plus Ea i) t ↔ Slotted ops Ea t) := by
    intro t ht
    constructor
    · rintro ⟨j, p, hj | rfl, hp, h2⟩
      · exact ⟨j, p, hj, hp, h2⟩
      · obtain rfl : o = p := by rw [ho] at hp; exact Option.some.inj hp
        rw [hdst] at h2; exact absurd (Option.some.inj h2).symm ht
    · rintro ⟨j, p, hj, hp, h2⟩
      exact ⟨j, p, .inl hj, hp, h2⟩
  have hd' : Slotted ops (plus Ea i) d := ⟨i, o, .inr rfl, ho, hdst⟩
  have hapart : ∀ j, Ea j → nameIn ρ nid j + 8 ≤ nameIn ρ nid i ∨ nameIn ρ nid i + 8 ≤ nameIn ρ nid j := fun j hj => nameIn_apart (h.early j hj).2.1 ⟨q, hm⟩ fun e => hEi (e ▸ hj)
  exact { h with
    rel := by
      refine hrel.like rfl (fun t => .inl ?_) (fun id ds hc => ?_) fun k hk => ?_
      · by_cases ht : t = d
        · subst ht
          rw [view_in (.inr hd')]
          simp only [St.get, look_cons, if_pos]
        · have e1 : St.get { (V.drop fun t => Pend ops fl seen L t ∨ Slotted ops Ea t).ext xb with sl := (d, .ptr (nameIn ρ nid i) 0) :: ((V.drop fun t => Pend ops fl seen L t ∨ Slotted ops Ea t).ext xb).sl, bx := (nameIn ρ nid i, cs) :: ((V.drop fun t => Pend ops fl seen L t ∨ Slotted ops Ea t).ext xb).bx } t = ((V.drop fun t => Pend ops fl seen L t ∨ Slotted ops Ea t).ext xb).get t := by
            simp only [St.get, look_cons, if_neg ht]
          rw [e1]
          by_cases hs : Slotted ops Ea t
          · have e2 : ((V.drop fun t => Pend ops fl seen L t ∨ Slotted ops Ea t).ext xb).get t = (look t xb.1).getD .undef := view_in (.inr hs)
            rw [e2, view_in (.inr ((hslot t ht).2 hs))]
            simp only [look_cons, if_neg ht]
          · have hs' : ¬ Slotted ops (plus Ea i) t := fun h9 => hs ((hslot t ht).1 h9)
            have hnx : ∀ s ∈ xb.1, s.1 ≠ t := fun s hs2 e => hs (by rw [← e]; exact h.slots s hs2)
            rw [get_ext hnx, get_ext (fun s hs2 => (List.mem_cons.1 hs2).elim (fun e => by rw [e]; exact fun e2 => ht e2.symm) (hnx s))]
            by_cases hp : Pend ops fl seen L t
            · rw [get_drop_in (.inl hp), get_drop_in (.inl hp)]
            · rw [get_drop fun h9 => h9.elim hp hs', get_drop fun h9 => h9.elim hp hs]
      · have hc' : look id (V.bx ++ (nameIn ρ nid i, cs) :: xb.2) = some ds := hc
        show look id ((nameIn ρ nid i, cs) :: (V.bx ++ xb.2)) = some ds
        rw [look_cons]
        cases hb : look id V.bx with
        | some cs' =>
          rw [look_append hb] at hc' ⊢
          rw [if_neg fun e => by rw [← e] at hnb; have hnb' : look id V.bx = none := hnb; rw [hnb'] at hb; simp at hb]
          exact hc'
        | none =>
          rw [look_append_none hb] at hc' ⊢
          rw [look_cons] at hc'
          exact hc'
      · refine ⟨⟨hk.1, fun ⟨j, hj, h2⟩ => hk.2 ⟨j, .inl hj, h2⟩⟩, fun h9 => hk.2 ⟨i, .inr rfl, h9⟩⟩
    bare := ⟨fun s hs => (List.mem_cons.1 hs).elim (fun e => ⟨nameIn ρ nid i, 0, by rw [e]⟩) (h.bare.1 s), fun s hs => (List.mem_cons.1 hs).elim (fun e => by rw [e]; exact hrows) (h.bare.2 s)⟩
    slots := fun s hs => (List.mem_cons.1 hs).elim (fun e => by rw [e]; exact hd') fun hs => by obtain ⟨j, p, hj, h2⟩ := h.slots s hs; exact ⟨j, p, .inl hj, h2⟩
    early := fun j hj => by
      by_cases e : j = i
      · subst e
        exact ⟨hal, ⟨q, hm⟩, o, d, cs, ho, hcs, hdst, by simp only [look_cons, if_pos], by simp only [look_cons, if_pos], hnb⟩
      · have hj := hj.resolve_right e
        obtain ⟨h1, h2, p, d', cs', h3, h4, h5, h6, h7, h8⟩ := h.early j hj
        have hne : nameIn ρ nid j ≠ nameIn ρ nid i := by have := hapart j hj; omega
        have hdne : d' ≠ d := fun e2 => planOK_two h.plan ⟨q, hm⟩ h2 (Ne.symm e) hal h1 ho h3 hdst (by rw [h5, e2])
        refine ⟨h1, h2, p, d', cs', h3, h4, h5, ?_, ?_, h8⟩
        · simp only [look_cons, if_neg hdne]; exact h6
        · simp only [look_cons, if_neg hne]; exact h7
    closedE := fun j p hj hp k hk => by
      rcases hj with hj | rfl
      · exact (h.closedE j p hj hp k hk).imp id .inl
      · obtain rfl : o = p := by rw [ho] at hp; exact Option.some.inj hp
        exact (hd k hk).imp id .inl
    defers := by rw [actPut_defers, actPut_defers]; exact h.defers
    size := by rw [actPut_size, actPut_size]; exact h.size
    agree := fun t ht => agree_put h.size fun _ => h.agree t ht }
theorem wpAny_ok [Kept] {K : List Nat} (hpin : ops.toList.all (pinned K) = true) {a0 : Act} (hΦ : PhiOK E Φ) {Q : Exit → Act → World → Prop} {w0 : World} {G0 : Gh}
    (hQ : ∀ a' w' G', Step false w0 w' G0 G' X → Rel st' a' w' G' X (fun i => N ≤ i) → Same K a0 a' → Q .normal a' w') (hX : ∀ b, w0.heap.size ≤ b → X b) :
    ∀ (fuel : Nat) (listed : Array Bool) (L Ea : Nat → Prop) (xb : List (Nat × AV) × List (Nat × List AV)) (a : Act) (w : World) (G : Gh) (ρ : List (Qt × Nat)) (seen : List (Nat × List Nat)) (last : Option Nat) (nid : Nat) (V : St) (b : Act) (nm : Nat → Nat),
      Vir E Φ ops X st' N fl al Ea xb L a w G ρ seen last nid V b nm → (∀ j, Lst listed j ↔ L j ∨ Ea j) → AtEff ops fl Ea ρ → listed.size = ops.size → ((List.range ops.size).filter fun i => !listed.getD i false).length ≤ fuel → Step false w0 w G0 G X → Same K a0 a →
      wpAny E.P .any ops Q fuel listed a w
  | 0, listed, L, Ea, xb, a, w, G, ρ, seen, last, nid, V, b, nm, h, hLE, hat, hs, hf, hstep, hsame => by
    have hnil : Region.ready .any ops listed = [] := by
      refine List.eq_nil_iff_forall_not_mem.2 fun i hi => ?_
      obtain ⟨h1, h2, _⟩ := (mem_ready hs).1 hi
      have : i ∈ (List.range ops.size).filter fun i => !listed.getD i false := List.mem_filter.2 ⟨List.mem_range.2 h1, by simpa using h2⟩
      rw [List.eq_nil_of_length_eq_zero (Nat.le_zero.1 hf)] at this
      simp at this
    exact ⟨hnil, hQ a w G hstep (h.final hLE hs hat hnil) hsame⟩
  | fuel + 1, listed, L, Ea, xb, a, w, G, ρ, seen, last, nid, V, b, nm, h, hLE, hat, hs, hf, hstep, hsame => by
    refine ⟨fun hnil => hQ a w G hstep (h.final hLE hs hat hnil) hsame, fun i hi => ?_⟩
    obtain ⟨h1, h2, o, ho, hd⟩ := (mem_ready hs).1 hi
    have hpo : pinned K o = true := List.all_eq_true.1 hpin o (by rw [Array.mem_toList_iff]; exact Array.mem_of_getElem? ho)
    have hil : i < listed.size := by omega
    have hs' : (listed.setIfInBounds i true).size = ops.size := by simpa using hs
    have hf' : ((List.range ops.size).filter fun j => !(listed.setIfInBounds i true).getD j false).length ≤ fuel := by
      have hle : ((List.range ops.size).filter fun j => !(listed.setIfInBounds i true).getD j false) = ((List.range ops.size).filter fun j => !listed.getD j false).filter fun j => decide (j ≠ i) := by
        rw [List.filter_filter]
        refine List.filter_congr fun j _ => ?_
        have := lst_set (j := j) hil
        unfold Lst at this
        rw [Bool.eq_iff_iff]
        simp only [Bool.not_eq_true', Bool.and_eq_true, decide_eq_true_eq]
        rw [← Bool.not_eq_true, this, ← Bool.not_eq_true]
        exact ⟨fun h => ⟨fun e => h (.inl e), fun e => h (.inr e)⟩, fun h e => e.elim h.1 h.2⟩
      have hlt : (((List.range ops.size).filter fun j => !listed.getD j false).filter fun j => decide (j ≠ i)).length < ((List.range ops.size).filter fun j => !listed.getD j false).length :=
        List.length_filter_lt_length_iff_exists.2 ⟨i, List.mem_filter.2 ⟨List.mem_range.2 h1, by simpa using h2⟩, by simp⟩
      rw [hle]
      omega
    have hLE' : ∀ j, Lst (listed.setIfInBounds i true) j ↔ plus L i j ∨ Ea j := fun j => by
      rw [lst_set hil, hLE]
      unfold plus
      constructor
      · rintro (h3 | h3 | h3)
        · exact .inl (.inr h3)
        · exact .inl (.inl h3)
        · exact .inr h3
      · rintro ((h3 | h3) | h3)
        · exact .inr (.inl h3)
        · exact .inl h3
        · exact .inr (.inr h3)
    have hnL : ¬ L i := fun h3 => h2 ((hLE i).2 (.inl h3))
    have hnE : ¬ Ea i := fun h3 => h2 ((hLE i).2 (.inr h3))
    have hcl : Closed ops (Lst listed) := fun j p hj hp k hk => by
      rcases (hLE j).1 hj with h3 | h3
      · exact (hLE k).2 (.inl (h.closed j p h3 hp k hk))
      · exact (hLE k).2 (h.closedE j p h3 hp k hk)
    have hseenL : (∀ d ∈ deps o, (look d seen).isSome = true) → ∀ d ∈ deps o, L d := fun h3 d hdd => ((hLE d).1 (hd d hdd)).resolve_right fun h4 => by have := h3 d hdd; rw [h.unseen h4] at this; simp at this
    simp only [wpOp, ho]
    cases hin : look i seen with
    | some l =>
      have hin' : (look i seen).isSome = true := by rw [hin]; rfl
      have hdL := hseenL (topo_deps h.topo i o hin' ho)
      have hlk := h.looks (h.cov i o hin' ho) hdL
      have hclear := h.clear (h.cov i o hin' ho) hdL
      have hfar : ∀ t, Slotted ops Ea t → t ∉ o.looksAt ops ∧ o.dst ≠ some t := by
        rintro t ⟨e, p, he, hp, hpd⟩
        obtain ⟨hal, ⟨q', hm⟩, _⟩ := h.early e he
        obtain ⟨p', hp', _, _, _, _, h4⟩ := planOK_early h.plan q' e hm hal
        obtain rfl : p = p' := by rw [hp] at hp'; exact Option.some.inj hp'
        obtain ⟨o', ho', h5⟩ := h4 i hin'
        obtain rfl : o = o' := by rw [ho] at ho'; exact Option.some.inj ho'
        exact h5 t hpd
      have hgl : ∀ t ∈ o.looksAt ops, ((V.drop fun t => Pend ops fl seen L t ∨ Slotted ops Ea t).ext xb).get t = V.get t := fun t ht => by
        rw [get_ext fun q hq e => (hfar _ (h.slots q hq)).1 (e ▸ ht), get_drop fun h9 => h9.elim (hclear t ht) fun h8 => (hfar t h8).1 ht]
      cases hfl : fl.contains i with
      | true =>
        obtain ⟨d, v, hdst, hgd, hv, hget, hlt⟩ := h.flo i o hin' hnL ho hfl
        rw [yielded_agree hlk, wanted_ok h.rel (wanted_free hgd), if_pos rfl]
        have hop : evOp0 E Φ (nm i) o ((V.drop fun t => Pend ops fl seen L t ∨ Slotted ops Ea t).ext xb) = some { ((V.drop fun t => Pend ops fl seen L t ∨ Slotted ops Ea t).ext xb) with sl := (d, v) :: ((V.drop fun t => Pend ops fl seen L t ∨ Slotted ops Ea t).ext xb).sl } := by
          refine hv _ _ (by rw [tree_ext, tree_drop]) (val_congr fun t ht => hgl t (looks_tmps ht)) ?_
          rw [hdst]
          exact if_pos hlt
        have hsel : ∀ cs t, o.op ≠ .select cs t := fun cs t e => by have := h.lits i o hfl ho; rw [e] at this; simp [isEff] at this
        refine .inl ?_
        have hy := evOp0_ok h.rel (fun b hb => hX b (Nat.le_trans hstep.size hb)) (fun k h1 h2' => ⟨.inr ⟨i, hin', hnL, hfl, h1, h2'⟩, fun ⟨j, hj, h4, h5⟩ => by
          have := h.nmlt i hin' hfl
          have := nameIn_le (ρ := ρ) (nid := nid) (i := j)
          omega⟩) hΦ hop
        rw [← exec_agree hsel hlk] at hy
        refine hy.wp ?_
        rintro cv w' ⟨G', hs2, hr2⟩
        refine wpAny_ok hpin hΦ hQ hX fuel _ _ _ _ _ w' G' ρ seen last nid V (b.put o.dst cv) nm (h.pending ho hdL hin' (hr2.like rfl (fun t => ?_) (fun id ds hc => hc) fun k hk => ?_)) hLE' hat hs' hf' (hstep.trans hs2) (hsame.trans (Same.put hpo))
        · by_cases hsl : Slotted ops Ea t
          · have htd : t ≠ d := fun e => (hfar t hsl).2 (by rw [hdst, e])
            left
            rw [view_in (.inr hsl)]
            have e1 : St.get { ((V.drop fun t => Pend ops fl seen L t ∨ Slotted ops Ea t).ext xb) with sl := (d, v) :: ((V.drop fun t => Pend ops fl seen L t ∨ Slotted ops Ea t).ext xb).sl } t = ((V.drop fun t => Pend ops fl seen L t ∨ Slotted ops Ea t).ext xb).get t := by
              simp only [St.get, look_cons, if_neg htd]
            rw [e1, view_in (.inr hsl)]
          have hnx : ∀ q ∈ xb.1, q.1 ≠ t := fun q hq e => hsl (by rw [← e]; exact h.slots q hq)
          rw [get_ext hnx]
          by_cases hp : Pend ops fl seen (plus L i) t
          · exact .inr (get_drop_in (.inl hp))
          · rw [get_drop fun h9 => h9.elim hp hsl]
            by_cases htd : t = d
            · subst htd
              left
              simp [St.get, look_cons]
              exact hget
            · have hp0 : ¬ Pend ops fl seen L t := by
                rintro ⟨j, p, hj, h3, h4, h5, h7, h6⟩
                refine hp ⟨j, p, hj, fun hl => ?_, h4, h5, h7, h6⟩
                rcases hl with hl | rfl
                · exact h3 hl
                · obtain rfl : o = p := by rw [ho] at h5; exact Option.some.inj h5
                  rw [hdst] at h6
                  exact htd (Option.some.inj h6).symm
              left
              have e1 : St.get { ((V.drop fun t => Pend ops fl seen L t ∨ Slotted ops Ea t).ext xb) with sl := (d, v) :: ((V.drop fun t => Pend ops fl seen L t ∨ Slotted ops Ea t).ext xb).sl } t = ((V.drop fun t => Pend ops fl seen L t ∨ Slotted ops Ea t).ext xb).get t := by
                simp only [St.get, look_cons, if_neg htd]
              rw [e1, get_ext hnx, get_drop fun h9 => h9.elim hp0 hsl]
        · refine ⟨⟨free_plus hk.1, hk.2⟩, ?_⟩
          rcases hk.1 with hk | ⟨j, hj, h3, h4, h5, h6⟩
          · have := h.nmlt i hin' hfl; omega
          · have hne : j ≠ i := fun e => h3 (.inr e)
            have := h.nmdis j i hj hin' h4 hfl hne
            omega
      | false =>
      obtain ⟨d, hdst, hcv, hst⟩ := h.stab i o hin' hnL ho hfl
      rw [yielded_agree hlk]
      have hrel : ∀ cv, RV w G (V.get d) cv → Rel ((V.drop fun t => Pend ops fl seen (plus L i) t ∨ Slotted ops Ea t).ext xb) (b.put o.dst cv) w G X (fun k => FreeN fl seen (plus L i) nm nid k ∧ ¬ Named ρ nid Ea k) := fun cv hx => by
        rw [drop_congr fun t => or_congr (pend_plus hfl t) Iff.rfl, hdst]
        refine (h.rel.reput ?_).weaken fun k hk => ⟨free_plus hk.1, hk.2⟩
        have hsl : ¬ Slotted ops Ea d := fun h9 => (hfar d h9).2 hdst
        rw [get_ext fun q hq e => hsl (by rw [← e]; exact h.slots q hq)]
        by_cases hp : Pend ops fl seen L d
        · rw [get_drop_in (.inl hp)]; exact rvUndef _
        · rw [get_drop fun h9 => h9.elim hp hsl]; exact hx
      rcases hst with ⟨hw, n, v, ids, hev, hget⟩ | ⟨hw, hget⟩
      · rw [wanted_ok h.rel (by rw [wanted_congr hgl]; exact hw), if_pos rfl]
        have hev' : evFree E Φ ((V.drop fun t => Pend ops fl seen L t ∨ Slotted ops Ea t).ext xb).box n ((V.drop fun t => Pend ops fl seen L t ∨ Slotted ops Ea t).ext xb).val o.op = some (v, ids) :=
          evFree_congr hcv (fun _ _ _ id _ cs _ hb => box_ext hb) (val_congr fun t ht => hgl t (looks_tmps ht)) hev
        obtain ⟨_, cv, hrun, hx⟩ := evPure_ok h.rel.sees hev' hcv
        have hsel : ∀ cs t, o.op ≠ .select cs t := fun cs t e => by rw [e] at hev; simp [evFree] at hev
        refine .inl ?_
        unfold Oper.wp
        rw [exec_agree hsel hlk, hrun]
        exact wpAny_ok hpin hΦ hQ hX fuel _ _ _ _ _ w G ρ seen last nid V (b.put o.dst cv) nm (h.pending ho hdL hin' (hrel cv (by rw [hget]; exact hx))) hLE' hat hs' hf' hstep (hsame.trans (Same.put hpo))
      · rw [wanted_ok h.rel (by rw [wanted_congr hgl]; exact hw), if_neg (by simp)]
        exact wpAny_ok hpin hΦ hQ hX fuel _ _ _ _ _ w G ρ seen last nid V (b.put o.dst undef) nm (h.pending ho hdL hin' (hrel undef (by rw [hget]; exact rvSkip))) hLE' hat hs' hf' hstep (hsame.trans (Same.put hpo))
    | none =>
      have hmem := (planOK_all h.plan i h1).resolve_left (by rw [hin]; simp)
      obtain ⟨q0, hmem⟩ := hmem
      rcases hat with rfl | ⟨q, e, r, oe, rfl, hoe, he, hnEe⟩
      · simp at hmem
      · obtain ⟨oe', hoe', hh⟩ := planOK_head h.plan
        obtain rfl : oe = oe' := by rw [hoe] at hoe'; exact Option.some.inj hoe'
        have hnLe : ¬ Lst listed e := fun h3 => by
          rcases (hLE e).1 h3 with h4 | h4
          · have := h.Lin e h4
            rw [hh.new] at this
            simp at this
          · exact hnEe h4
        cases hai : al.contains i with
        | false =>
          have hie : i = e := by
            refine Classical.byContradiction fun hie => ?_
            have hmr := (List.mem_cons.1 hmem).resolve_left fun h9 => hie (Prod.mk.inj h9).2
            have hale : al.contains e = false := by
              cases hae : al.contains e with
              | false => rfl
              | true => exact absurd (planOK_behind hcl hae hh.tail (h.tab.cons hoe) (by rw [look_cons, if_pos rfl]; rfl) q0 i o hmr ho hai hd) hnLe
            have h4 := hh.tail
            rw [he, hale] at h4
            exact hnLe (planOK_later hcl h4 (h.tab.cons hoe) q0 i o hmr ho hai hd)
          subst hie
          obtain rfl : o = oe := by rw [ho] at hoe; exact Option.some.inj hoe
          have hdL := hseenL hh.dep
          -- what is early stays so
          obtain ⟨xb, h, hex⟩ : ∃ xb, Vir E Φ ops X st' N fl al Ea xb L a w G ((q, i) :: r) seen last nid V b nm ∧ ((∀ j, ¬ Ea j) ∧ xb = ([], []) ∨ q = .still ∧ al.contains i = false) := by
            by_cases hE : ∃ j, Ea j
            · obtain ⟨j, hj⟩ := hE
              refine ⟨xb, h, .inr ?_⟩
              obtain ⟨hal, ⟨q', hm⟩, _⟩ := h.early j hj
              have hji : j ≠ i := fun e => hnE (e ▸ hj)
              have hm' := (List.mem_cons.1 hm).resolve_left fun e => hji (Prod.mk.inj e).2
              exact ⟨(hh.still he).resolve_right fun h9 => by have := h9 _ hm'; rw [hal] at this; simp at this, hai⟩
            · exact ⟨_, h.bare0 fun j hj => hE ⟨j, hj⟩, .inl ⟨fun j hj => hE ⟨j, hj⟩, rfl⟩⟩
          have hlk := h.looks (hh.cov h.tab) hdL
          have hclear := h.clear (hh.cov h.tab) hdL
          have haway := h.away hh fun _ => hdL
          have hfar : ∀ t, Slotted ops Ea t → t ∉ o.looksAt ops ∧ o.dst ≠ some t := fun t ht => by
            rcases hex with ⟨h9, _⟩ | ⟨_, h9⟩
            · obtain ⟨j, _, hj, _⟩ := ht; exact absurd hj (h9 j)
            · exact h.apart hh ho h9 ht
          have hgl : ∀ t ∈ o.looksAt ops, ((V.drop fun t => Pend ops fl seen L t ∨ Slotted ops Ea t).ext xb).get t = V.get t := fun t ht => by
            rw [get_ext fun q hq e => (hfar _ (h.slots q hq)).1 (e ▸ ht), get_drop fun h9 => h9.elim (hclear t ht) fun h8 => (hfar t h8).1 ht]
          rw [yielded_agree hlk]
          have hev := h.ev
          simp only [evPlan, Array.getElem?_toList, ho, Option.bind_some] at hev
          obtain ⟨t, hw, hev⟩ := Option.bind_eq_some_iff.1 hev
          rw [wanted_ok h.rel (by rw [wanted_congr hgl]; exact hw)]
          have heff : isEff o.op = true := by
            unfold hard at he
            rw [Bool.and_eq_true] at he
            exact he.1
          have hfreen : ∀ k, nid ≤ k → k < nid + 8 → FreeN fl seen L nm nid k ∧ ¬ Named ((q, i) :: r) nid Ea k := fun k hk1 hk2 => ⟨.inl hk1, fun h9 => by
            obtain ⟨j, hj, h3, h4⟩ := (named_cons hnE).1 h9
            have := nameIn_le (ρ := r) (nid := nid + 8) (i := j)
            omega⟩
          have hnbox : V.box nid = none := by
            cases hb : V.box nid with
            | none => rfl
            | some cs =>
              obtain ⟨b', _, _, h5, _⟩ := h.rel.box nid cs (box_ext hb)
              rw [(h.rel.free nid (hfreen nid (Nat.le_refl _) (by omega))).2] at h5
              simp at h5
          have hbE : ∀ j, Ea j → nameIn r (nid + 8) j ≠ nid ∧ V.box (nameIn r (nid + 8) j) = none := fun j hj => by
            obtain ⟨_, _, _, _, _, _, _, _, _, _, h9⟩ := h.early j hj
            have hji : j ≠ i := fun e => hnE (e ▸ hj)
            rw [nameIn_ne hji] at h9
            have := nameIn_le (ρ := r) (nid := nid + 8) (i := j)
            exact ⟨by omega, h9⟩
          cases t with
          | true =>
            simp only [if_true] at hev ⊢
            obtain ⟨V', h5, h6⟩ := Option.bind_eq_some_iff.1 hev
            have hop : evOp0 E Φ nid o V = some V' := step_op (q := q) heff h5
            have hqt : q = .quiet ∨ q = .still → Quiet V V' o.dst := fun hq => by
              rcases hq with hq | hq
              · subst hq; exact evOpQ_quiet hnbox h5
              · subst hq; exact evOpQ_quiet hnbox (evOpT_Q h5).2
            have hqs : ∀ ld l, q = .soft ld l → Soft V V' o.dst ld l := fun ld l hq => by subst hq; exact evOpS_soft h5
            have hsel : ∀ cs t, o.op ≠ .select cs t := fun cs t e => by rw [e] at heff; simp [isEff] at heff
            have hpt : ∀ t, (Pend ops fl seen L t ∨ Slotted ops Ea t) → t ∉ o.looksAt ops := fun t hp => hp.elim (fun hp ht => hclear t ht hp) fun hp => (hfar t hp).1
            have hdr := evOp0_drop (p := fun t => Pend ops fl seen L t ∨ Slotted ops Ea t) (fun t hp ht => hpt t hp (looks_tmps ht)) (fun t ht h9 => h9.elim (haway t ht) fun h8 => (hfar t h8).2 ht) hop
            have hvw : evOp0 E Φ nid o ((V.drop fun t => Pend ops fl seen L t ∨ Slotted ops Ea t).ext xb) = some ((V'.drop fun t => Pend ops fl seen L t ∨ Slotted ops Ea t).ext xb) := by
              rcases hex with ⟨_, rfl⟩ | ⟨hq, _⟩
              · rw [ext_nil, ext_nil]; exact hdr
              · subst hq
                exact evOp0_ex h.bare ((still_op (evOpT_Q h5).1).drop fun t hp ht => hpt t hp (looks_tmps ht)) (fun t ht s hs e => (hfar _ (h.slots s hs)).1 (by rw [e]; exact looks_tmps ht)) _ hdr
            have hbx : ∀ j, Ea j → V'.box (nameIn r (nid + 8) j) = none := fun j hj => by
              rcases hex with ⟨h9, _⟩ | ⟨hq, _⟩
              · exact absurd hj (h9 j)
              · subst hq
                rw [evOpQ_box (evOpT_Q h5).2 (hbE j hj).1]; exact (hbE j hj).2
            refine .inl ?_
            have hy := evOp0_ok h.rel (fun b hb => hX b (Nat.le_trans hstep.size hb)) hfreen hΦ hvw
            rw [← exec_agree hsel hlk] at hy
            refine hy.wp ?_
            rintro v w' ⟨G', hs2, hr2⟩
            obtain ⟨L2, Ea2, xb2, ρ', seen', nid', V2, b2, nm2, hv2, hat2, hle2⟩ := (h.effect ho he hnE hdL hr2 (evOp0_tree hop) h6 hqt hqs hbx).advance
            exact wpAny_ok hpin hΦ hQ hX fuel _ _ _ _ _ w' G' ρ' seen' _ nid' V2 b2 nm2 hv2 (fun j => (hLE' j).trans (hle2 j).symm) hat2 hs' hf' (hstep.trans hs2) (hsame.trans (Same.put hpo))
          | false =>
            simp only [Bool.false_eq_true, if_false] at hev ⊢
            obtain ⟨V', h5, h6⟩ := Option.bind_eq_some_iff.1 hev
            have h5' : ((V.drop fun t => Pend ops fl seen L t ∨ Slotted ops Ea t).ext xb).put o.dst (.tup []) = some ((V'.drop fun t => Pend ops fl seen L t ∨ Slotted ops Ea t).ext xb) := put_ext _ (by rw [put_drop fun t ht h9 => h9.elim (haway t ht) fun h8 => (hfar t h8).2 ht, h5]; rfl)
            obtain ⟨L2, Ea2, xb2, ρ', seen', nid', V2, b2, nm2, hv2, hat2, hle2⟩ := (h.effect ho he hnE hdL (((h.rel.put rvSkip h5').1).weaken fun k hk => hk.1) (put_tree h5) h6 (fun _ => put_quiet h5) (fun ld l _ => ⟨fun t _ ht => (put_quiet h5).1 t ht, fun _ _ id _ cs _ hb => (put_quiet h5).2 id cs hb⟩) (fun j hj => by rw [put_box h5]; exact (hbE j hj).2)).advance
            exact wpAny_ok hpin hΦ hQ hX fuel _ _ _ _ _ w G ρ' seen' _ nid' V2 b2 nm2 hv2 (fun j => (hLE' j).trans (hle2 j).symm) hat2 hs' hf' hstep (hsame.trans (Same.put hpo))
        | true =>
          -- an alloc, perhaps ahead of its turn
          have hali := hai
          obtain ⟨o', ho', hall, ⟨d, hdst⟩, hfl, hnew, hseen⟩ := planOK_early h.plan q0 i hmem hali
          obtain rfl : o = o' := by rw [ho] at ho'; exact Option.some.inj ho'
          obtain ⟨cs, hcs, hlt⟩ := evPlan_alloc h.ev q0 i o hmem (by rw [Array.getElem?_toList]; exact ho) hall
          have hlk : ∀ t ∈ o.looksAt ops, a.tmps[t]? = b.tmps[t]? := fun t ht => by rw [alloc_looks hall] at ht; simp at ht
          rw [yielded_agree hlk, wanted_ok h.rel (wanted_free (alloc_guard hall)), if_pos rfl]
          have hsel : ∀ cs t, o.op ≠ .select cs t := fun cs t e => by have := alloc_eff hall; rw [e] at this; simp [isEff] at this
          have hfreen : ∀ k, nameIn ((q, e) :: r) nid i ≤ k → k < nameIn ((q, e) :: r) nid i + 8 → FreeN fl seen L nm nid k ∧ ¬ Named ((q, e) :: r) nid Ea k := fun k hk1 hk2 => ⟨.inl (Nat.le_trans nameIn_le hk1), fun ⟨j, hj, h3, h4⟩ => by
            have := nameIn_apart (nid := nid) (h.early j hj).2.1 ⟨q0, hmem⟩ fun e2 => hnE (e2 ▸ hj)
            omega⟩
          have hnb : V.box (nameIn ((q, e) :: r) nid i) = none := by
            cases hb : V.box (nameIn ((q, e) :: r) nid i) with
            | none => rfl
            | some cs =>
              obtain ⟨b', _, _, h5, _⟩ := h.rel.box _ cs (box_ext hb)
              rw [(h.rel.free _ (hfreen _ (Nat.le_refl _) (by omega))).2] at h5
              simp at h5
          have hop : evOp0 E Φ (nameIn ((q, e) :: r) nid i) o ((V.drop fun t => Pend ops fl seen L t ∨ Slotted ops Ea t).ext xb) = some { ((V.drop fun t => Pend ops fl seen L t ∨ Slotted ops Ea t).ext xb) with sl := (d, .ptr (nameIn ((q, e) :: r) nid i) 0) :: ((V.drop fun t => Pend ops fl seen L t ∨ Slotted ops Ea t).ext xb).sl, bx := (nameIn ((q, e) :: r) nid i, cs) :: ((V.drop fun t => Pend ops fl seen L t ∨ Slotted ops Ea t).ext xb).bx } := by
            rw [alloc_ev hall hcs, hdst]
            exact if_pos (hlt d hdst)
          refine .inl ?_
          have hy := evOp0_ok h.rel (fun b hb => hX b (Nat.le_trans hstep.size hb)) hfreen hΦ hop
          rw [← exec_agree hsel hlk] at hy
          refine hy.wp ?_
          rintro v w' ⟨G', hs2, hr2⟩
          have hq1 := h.early1 hmem hali ho hnE (fun k hk => (hLE k).1 (hd k hk)) hdst hcs (newCells_rows hcs) hnb hr2
          obtain ⟨L2, Ea2, xb2, ρ', seen', nid', V2, b2, nm2, hv2, hat2, hle2⟩ := hq1.advance
          refine wpAny_ok hpin hΦ hQ hX fuel _ _ _ _ _ w' G' ρ' seen' _ nid' V2 b2 nm2 hv2 (fun j => Iff.trans ?_ (hle2 j).symm) hat2 hs' hf' (hstep.trans hs2) (hsame.trans (Same.put hpo))
          rw [lst_set hil, hLE]
          unfold plus
          constructor
          · rintro (h3 | h3 | h3)
            · exact .inr (.inr h3)
            · exact .inl h3
            · exact .inr (.inl h3)
          · rintro (h3 | h3 | h3)
            · exact .inr (.inl h3)
            · exact .inr (.inr h3)
            · exact .inl h3
end
end Go.Proofs.Ytggkeechdakccaa.Flat
/-
Code, bodies, calls.
-/
namespace Go.Proofs.Ytggkeechdakccaa.Flat
section
variable {E : Env} {Φ : Phi} {X : Nat → Prop}
theorem Rel.drawn [Kept] {st : St} {a : Act} {w : World} {G : Gh} {F : Nat → Prop} (h : Rel st a w G X F) (n : Nat) : Rel st a { w with drawn := n } G X F ∧ Step false w { w with drawn := n } G G X := by
  have hk : Keep w { w with drawn := n } G G (fun _ => False) := ⟨fun _ _ _ h => h, fun _ _ _ _ => rfl, fun _ _ h => ⟨h, rfl, rfl, rfl, fun _ hg => ⟨hg, rfl⟩⟩, fun _ _ h => h⟩
  refine ⟨h.keep hk (fun _ _ _ => rfl) ?_ h.free, ⟨rfl, rfl, rfl, Nat.le_refl _, fun _ _ _ => rfl, rfl, fun _ _ _ _ h => h, fun _ _ _ _ _ => rfl, fun _ _ _ h => .inl h, rfl, fun _ _ _ h => h⟩⟩
  exact ⟨h.inv.nb, h.inv.row, h.inv.plain, h.inv.box, h.inv.rows, h.inv.boxes, h.inv.rowBox, h.inv.lt, h.inv.old, h.inv.new, h.inv.sBox, h.inv.sRow, h.inv.kept⟩
theorem shutV_cell (y : AV) (h : y.isCell = true ∨ y = .undef) : y.shutV.isCell = true ∨ y.shutV = .undef := by
  unfold AV.shutV
  cases y with
  | undef => exact .inr rfl
  | agg cs => rcases h with h | h <;> simp [AV.isCell] at h
  | tup cs => rcases h with h | h <;> simp [AV.isCell] at h
  | ptr id off => exact .inr rfl
  | eptr d id fz e sz xs i off =>
    simp only [AV.mapO]
    split
    · split
      · exact .inl rfl
      · exact .inr rfl
    · exact .inr rfl
  | _ => exact .inl rfl
theorem Rel.openB [Kept] {st s0 : St} {a : Act} {w : World} {G : Gh} {F : Nat → Prop} (h : Rel st a w G X F) {t : Nat} (ho : st.openB t = some s0) : ∃ G', Rel s0 a w G' X F ∧ Step false w w G G' X ∧ s0.nx = st.nx := by
  unfold St.openB at ho
  split at ho
  · rename_i id off hv
    obtain ⟨cs, hcs, rfl⟩ := Option.map_eq_some_iff.1 ho
    obtain ⟨b, vs, T, h1, h2, h3, h4, h5, h6⟩ := h.box id cs hcs
    have hmem : ∀ (l : List AV) (v : AV), v ∈ l → ∀ i ∈ v.rows, i ∈ AV.rowss l := by
      intro l
      induction l with
      | nil => intro v hv; simp at hv
      | cons x r ih =>
        intro v hv i hi
        simp only [AV.rowss, List.mem_append]
        rcases List.mem_cons.1 hv with rfl | hv
        · exact .inl hi
        · exact .inr (ih v hv i hi)
    have hin : ∀ (l : List AV) (i : Nat), i ∈ AV.rowss l → ∃ v ∈ l, i ∈ v.rows := by
      intro l
      induction l with
      | nil => intro i hi; simp [AV.rowss] at hi
      | cons x r ih =>
        intro i hi
        simp only [AV.rowss, List.mem_append] at hi
        rcases hi with hi | hi
        · exact ⟨x, by simp, hi⟩
        · obtain ⟨v, h1, h2⟩ := ih i hi
          exact ⟨v, by simp [h1], h2⟩
    have hids : ∀ i ∈ AV.rowss cs, ∃ fz e sz xs, RowOK w G i fz e sz xs := fun i hi => by
      obtain ⟨v, hv, hiv⟩ := hin cs i hi
      obtain ⟨j, hj, rfl⟩ := List.getElem_of_mem hv
      exact (h6 j hj).rows_al i hiv
    obtain ⟨hr, hs⟩ := h.freeze hids
    have hμ : (G.freeze w (AV.rowss cs)).μ = G.μ := rfl
    refine ⟨_, ⟨?_, hr.defers, hr.slot, fun id' cs' hc => ?_, hr.inv, hr.free⟩, hs, ?_⟩
    · exact hr.size
    · simp only [St.box, St.setBox, look_cons] at hc
      split at hc
      · rename_i e
        subst e
        obtain rfl := Option.some.inj hc
        refine ⟨b, vs, T, h1, h2, by simpa using h3, fun y hy => ?_, h5, fun j hj => ?_⟩
        · obtain ⟨y0, hy0, rfl⟩ := List.mem_map.1 hy
          exact shutV_cell y0 (h4 y0 hy0)
        · rw [List.getElem_map]
          exact .ro (RV.shutV (h6 j (by simpa using hj)) (hmem cs _ (List.getElem_mem _)))
      · exact hr.box id' cs' hc
    · unfold St.freeze
      split <;> rfl
  · simp at ho
theorem Rel.opened [Kept] {st s0 : St} {a : Act} {w : World} {G : Gh} {F : Nat → Prop} {p : List (Qt × Nat)} (h : Rel st a w G X F) (ho : opened p st = some s0) : ∃ G', Rel s0 a w G' X F ∧ Step false w w G G' X ∧ s0.nx = st.nx := by
  unfold Flat.opened at ho
  split at ho
  · exact h.openB ho
  · obtain rfl := Option.some.inj ho
    exact ⟨G, h, Step.refl _ _ _ _, rfl⟩
theorem evRegion_ok [Kept] (hm : E.P.follows .mixedOrders = true) (hΦ : PhiOK E Φ) {Q : Exit → Act → World → Prop} {id : Nat} {ops : Array Oper} {draw : Bool}
    {plan : List (Qt × Nat)} {st st' : St} {a : Act} {w : World} {G : Gh} {K : List Nat} (hpin : ops.toList.all (pinned K) = true) (hp : draw = true → planOK2 ops plan = true) (h : Rel st a w G X (fun i => st.nx ≤ i)) (hX : ∀ b, w.heap.size ≤ b → X b)
    (he : evRegion E Φ plan ops.toList draw st = some st') (hQ : ∀ a' w', Behind K a w G X st' a' w' → Q .normal a' w') : (Code.region id ops draw).wp E.P Q a w := by
  unfold evRegion at he
  cases draw with
  | false =>
    simp only [Bool.false_eq_true, if_false] at he
    obtain ⟨s2, h1, rfl⟩ := Option.map_eq_some_iff.1 he
    refine wp_region_list (evOps_ok hΦ ops.toList st.nx st a w G hpin h hX h1 fun a' w' G' hs hr hsm => ?_)
    exact hQ a' w' ⟨G', hs, hr.setNx _, hsm⟩
  | true =>
    simp only [if_true] at he
    obtain ⟨s2, h1, rfl⟩ := Option.map_eq_some_iff.1 he
    obtain ⟨s0, ho, h1⟩ := Option.bind_eq_some_iff.1 h1
    obtain ⟨G1, h, hs0, hnx⟩ := h.opened ho
    have hlen : (unfrz plan).length = plan.length := by unfold unfrz; split <;> rfl
    have hp : planOK1 ops (unfrz plan) = true := hp rfl
    rw [← hlen, ← hnx] at hQ
    rw [← hnx] at h
    generalize unfrz plan = plan at *
    obtain ⟨hr1, hs1⟩ := h.drawn (w.drawn + 1)
    refine wp_region_any hm ?_
    have hpl : ∃ fl al, planOK ops fl al plan [] none = true ∧ ∀ i o, fl.contains i = true → ops[i]? = some o → isEff o.op = true := by
      have h9 := hp
      unfold planOK1 at h9
      rw [Bool.or_eq_true] at h9
      rcases h9 with h9 | h9
      · exact ⟨[], _, h9, fun i o h8 => by simp at h8⟩
      · refine ⟨_, _, h9, fun i o h8 ho => ?_⟩
        obtain ⟨⟨q, j⟩, h7, h6⟩ := List.mem_filterMap.1 (List.contains_iff_mem.1 h8)
        simp only at h6
        cases hj : ops[j]? with
        | none => rw [hj] at h6; simp at h6
        | some p =>
          rw [hj] at h6
          simp only at h6
          split at h6
          · rename_i h5
            obtain rfl := Option.some.inj h6
            rw [ho] at hj
            obtain rfl := Option.some.inj hj
            rw [Bool.or_eq_true, Bool.and_eq_true, Bool.and_eq_true] at h5
            exact h5.elim (fun h5 => lit_eff h5.2) fun h5 => call_eff h5.2
          · simp at h6
    obtain ⟨fl, al, hpl, hfle⟩ := hpl
    have hnoP : ∀ t, ¬ (Pend ops fl [] (fun _ => False) t ∨ Slotted ops (fun _ => False) t) := by
      rintro t (⟨i, o, hi, _⟩ | ⟨i, o, hi, _⟩)
      · simp [look] at hi
      · exact hi
    have hlst : ∀ j, ¬ Lst (Array.replicate ops.size false) j := fun j hi => by
      unfold Lst at hi
      rw [Array.getD_eq_getD_getElem?, Array.getElem?_replicate] at hi
      split at hi <;> simp at hi
    have hv : Vir E Φ ops X s2 (s0.nx + 8 * plan.length) fl al (fun _ => False) ([], []) (fun _ => False) a { w with drawn := w.drawn + 1 } G1 plan [] none s0.nx s0 a (fun _ => 0) := {
      plan := hpl
      tab := fun i l hl => by simp [look] at hl
      cov := fun i o hi => by simp [look] at hi
      topo := trivial
      Lin := fun i hi => hi.elim
      eff := fun i o hi => by simp [look] at hi
      lastL := fun e he => by simp at he
      closed := fun i o hi => hi.elim
      rel := by
        rw [ext_nil]
        exact hr1.like rfl (fun t => .inl (get_drop (hnoP t))) (fun id cs hc => hc) fun k hk => by
          rcases hk.1 with hk | ⟨i, hi, _⟩
          · exact hk
          · simp [look] at hi
      bare := ⟨fun _ h => by simp at h, fun _ h => by simp at h⟩
      slots := fun _ h => by simp at h
      early := fun i hi => hi.elim
      closedE := fun i o hi => hi.elim
      ev := h1
      count := rfl
      defers := rfl
      size := rfl
      agree := fun _ _ => rfl
      stab := fun i o hi => by simp [look] at hi
      flo := fun i o hi => by simp [look] at hi
      nmlt := fun i hi => by simp [look] at hi
      nmdis := fun i j hi => by simp [look] at hi
      lits := hfle }
    obtain ⟨L', Ea', xb', ρ', seen', nid', V', b', nm', hv', hat, hle⟩ := hv.advance
    refine wpAny_ok hpin (a0 := a) hΦ (w0 := { w with drawn := w.drawn + 1 }) (G0 := G1) (fun a' w' G' hs hr hsm => hQ a' w' ⟨G', (hs0.trans hs1).trans hs, hr.setNx _, hsm⟩) hX ops.size _ _ _ _ a _ G1 ρ' seen' none nid' V' b' nm' hv' (fun j => ⟨fun h9 => absurd h9 (hlst j), fun h9 => ((hle j).1 h9).elim False.elim False.elim⟩) hat (by simp) ?_ (Step.refl _ _ _ _) (Same.refl _ _)
    exact Nat.le_trans (List.length_filter_le _ _) (by simp)
theorem Behind.trans [Kept] {K : List Nat} {a a' : Act} {w w' w'' : World} {G G' : Gh} {st'' : St} {a'' : Act} (h : Step false w w' G G' X) (hs : Same K a a') (h' : Behind K a' w' G' X st'' a'' w'') : Behind K a w G X st'' a'' w'' := by
  obtain ⟨G2, h1, h2, h3⟩ := h'
  exact ⟨G2, h.trans h1, h2, hs.trans h3⟩
theorem ev_ok [Kept] (hm : E.P.follows .mixedOrders = true) (hΦ : PhiOK E Φ) {n f np : Nat} {K : List Nat} :
    ∀ (c : Code) (st st' : St) (e : Exit) (a : Act) (w : World) (G : Gh) (Q : Exit → Act → World → Prop), codeOK (E.plan f) c = true → codePin K c = true → G.np ≤ np → Rel st a w G X (fun i => st.nx ≤ i) → (∀ b, w.heap.size ≤ b → X b) →
      ev E Φ n f np c st = some (e, st') → (∀ a' w', Behind K a w G X st' a' w' → Q e a' w') → c.wp E.P Q a w := by
  intro c
  induction c with
  | skip =>
    intro st st' e a w G Q _ hk hnp h hX he hQ
    simp only [ev, Option.some.injEq, Prod.mk.injEq] at he
    obtain ⟨rfl, rfl⟩ := he
    exact wp_skip (hQ a w ⟨G, Step.refl _ _ _ _, h, Same.refl _ _⟩)
  | label l =>
    intro st st' e a w G Q _ hk hnp h hX he hQ
    simp only [ev, Option.some.injEq, Prod.mk.injEq] at he
    obtain ⟨rfl, rfl⟩ := he
    exact wp_label (hQ a w ⟨G, Step.refl _ _ _ _, h, Same.refl _ _⟩)
  | exit id =>
    intro st st' e a w G Q _ hk hnp h hX he hQ
    simp only [ev, Option.some.injEq, Prod.mk.injEq] at he
    obtain ⟨rfl, rfl⟩ := he
    exact wp_exit (hQ a w ⟨G, Step.refl _ _ _ _, h, Same.refl _ _⟩)
  | ret =>
    intro st st' e a w G Q _ hk hnp h hX he hQ
    simp only [ev, Option.some.injEq, Prod.mk.injEq] at he
    obtain ⟨rfl, rfl⟩ := he
    exact wp_ret (hQ a w ⟨G, Step.refl _ _ _ _, h, Same.refl _ _⟩)
  | region id ops draw =>
    intro st st' e a w G Q hc hk hnp h hX he hQ
    simp only [ev] at he
    obtain ⟨s2, h1, h2⟩ := Option.map_eq_some_iff.1 he
    obtain ⟨rfl, rfl⟩ := Prod.mk.inj h2
    exact evRegion_ok hm hΦ hk (fun hd => by simp only [codeOK, hd, Bool.not_true, Bool.false_or] at hc; exact hc) h hX h1 hQ
  | seq x y ihx ihy =>
    intro st st' e a w G Q hc hk hnp h hX he hQ
    simp only [codeOK, Bool.and_eq_true] at hc
    simp only [codePin, Bool.and_eq_true] at hk
    simp only [ev] at he
    obtain ⟨⟨e1, s1⟩, h1, h2⟩ := Option.bind_eq_some_iff.1 he
    refine wp_seq (ihx st s1 e1 a w G _ hc.1 hk.1 hnp h hX h1 fun a' w' hb => ?_)
    obtain ⟨G', hs, hr, hsm⟩ := hb
    cases e1 with
    | normal => exact ihy s1 st' e a' w' G' Q hc.2 hk.2 (by rw [hs.np]; exact hnp) hr (fun b hb => hX b (Nat.le_trans hs.size hb)) h2 fun a2 w2 hb2 => hQ a2 w2 (Behind.trans hs hsm hb2)
    | _ =>
      simp only [Option.some.injEq, Prod.mk.injEq] at h2
      obtain ⟨rfl, rfl⟩ := h2
      exact hQ a' w' ⟨G', hs, hr, hsm⟩
  | cond c x y ihx ihy =>
    intro st st' e a w G Q hc hk hnp h hX he hQ
    simp only [codeOK, Bool.and_eq_true] at hc
    simp only [codePin, Bool.and_eq_true] at hk
    simp only [ev] at he
    split at he
    · rename_i b hb
      have hv := h.sees.val c
      rw [hb] at hv
      refine wp_cond (bool_of_rv hv) ?_
      cases b with
      | true => exact ihx st st' e a w G Q hc.1 hk.1 hnp h hX (by simpa using he) hQ
      | false => exact ihy st st' e a w G Q hc.2 hk.2 hnp h hX (by simpa using he) hQ
    · simp at he
  | block id c ih =>
    intro st st' e a w G Q hc hk hnp h hX he hQ
    simp only [codeOK] at hc
    simp only [ev] at he
    obtain ⟨⟨e1, s1⟩, h1, h2⟩ := Option.map_eq_some_iff.1 he
    refine wp_block (ih st s1 e1 a w G _ hc hk hnp h hX h1 fun a' w' hb => ?_)
    cases e1 with
    | exit j =>
      simp only at h2
      obtain ⟨rfl, rfl⟩ := Prod.mk.inj h2
      simp only [Exit.inBlock]
      split
      · rename_i hj; rw [if_pos hj] at hQ; exact hQ a' w' hb
      · rename_i hj; rw [if_neg hj] at hQ; exact hQ a' w' hb
    | _ =>
      simp only at h2
      obtain ⟨rfl, rfl⟩ := Prod.mk.inj h2
      exact hQ a' w' hb
  | scope c ih =>
    intro st st' e a w G Q hc hk hnp h hX he hQ
    simp only [codeOK] at hc
    simp only [ev] at he
    obtain ⟨⟨e1, s1⟩, h1, h2⟩ := Option.bind_eq_some_iff.1 he
    refine wp_scope_straight (ih st s1 e1 a w G _ hc hk hnp h hX h1 fun a' w' hb => ?_)
    cases e1 with
    | goto l => simp at h2
    | _ =>
      simp only [Option.some.injEq, Prod.mk.injEq] at h2
      obtain ⟨rfl, rfl⟩ := h2
      exact hQ a' w' hb
  | loop c ih =>
    intro st st' e a w G Q hc hk hnp h hX he hQ
    simp only [codeOK] at hc
    simp only [ev] at he
    refine wp_loop_rounds n ?_
    have key : ∀ (m : Nat) (st : St) (a1 : Act) (w1 : World) (G1 : Gh), Rel st a1 w1 G1 X (fun i => st.nx ≤ i) → Step false w w1 G G1 X → Same K a a1 → iter (ev E Φ n f np c) (gc np (E.keep f (firstRegion c))) m st = some (e, st') → Code.rounds E.P c Q m a1 w1 := by
      intro m
      induction m with
      | zero => intro st a1 w1 G1 _ _ _ hi; simp [iter] at hi
      | succ m ihm =>
        intro st a1 w1 G1 hr hs hsm hi
        simp only [iter] at hi
        obtain ⟨s1, h1, hi⟩ := Option.bind_eq_some_iff.1 hi
        obtain ⟨⟨e2, s2⟩, h2, hi⟩ := Option.bind_eq_some_iff.1 hi
        obtain ⟨G2, hs2, hr2⟩ := gc_ok (by rw [hs.np]; exact hnp) hr h1
        have hs12 := hs.trans hs2
        refine ih s1 s2 e2 a1 w1 G2 _ hc hk (by rw [hs12.np]; exact hnp) hr2 (fun b hb => hX b (Nat.le_trans hs.size hb)) h2 fun a' w' hb => ?_
        obtain ⟨G3, hs3, hr3, hsm3⟩ := hb
        cases e2 with
        | normal => exact ihm s2 a' w' G3 hr3 (hs12.trans hs3) (hsm.trans hsm3) hi
        | _ =>
          simp only [Option.some.injEq, Prod.mk.injEq] at hi
          obtain ⟨rfl, rfl⟩ := hi
          exact hQ a' w' ⟨G3, hs12.trans hs3, hr3, hsm.trans hsm3⟩
    exact key n st a w G h (Step.refl _ _ _ _) (Same.refl _ _) he
  | _ =>
    intro st st' e a w G Q hc hk hnp h hX he hQ
    simp [ev] at he
end
end Go.Proofs.Ytggkeechdakccaa.Flat
/-
What a call comes to that the evaluator tells.
-/
namespace Go.Proofs.Ytggkeechdakccaa.Flat
theorem getD_numbered {args : List AV} (i : Nat) (h : i < args.length) : (look i (numbered 0 args)).getD .undef = args[i] := by
  rw [look_numbered]
  simp [h]
section
variable {E : Env} {Φ : Phi} {X : Nat → Prop} {st : St} {a : Act} {w : World} {G : Gh} {F : Nat → Prop}
theorem ptr_of_behind {bx : Nat → Option (List AV)} {p : AV} {pv : Value} {cs : List AV} (hp : RV w G p pv) (hcs : behind bx p = some cs) : ∃ ad, pv = .pointer (some ad) := by
  cases hp with
  | ro hr => cases hr with
    | cptr => exact ⟨_, rfl⟩
    | _ => simp [behind] at hcs
  | ptr => exact ⟨_, rfl⟩
  | eptr => exact ⟨_, rfl⟩
  | _ => simp [behind] at hcs
theorem res_ok [Kept] {P : Program} {r : ResultVar} {x : AV} (h : Rel st a w G X F) (hr : resultOf P st r = some x) :
    ∃ v, RV w G x v ∧ (match r with | .tmp t => a.tmps.getD t undef = v | .cell c t => ∃ ad, a.tmps.getD c undef = .pointer (some ad) ∧ (loadVar t ad).run P w = .ok v w) := by
  cases r with
  | tmp t =>
    simp only [resultOf, Option.some.injEq] at hr
    subst hr
    exact ⟨_, h.slot t, rfl⟩
  | cell c t =>
    simp only [resultOf] at hr
    obtain ⟨v, h1, h2⟩ := evLoad_ok h.box (h.slot c) hr
    refine ⟨v, h2, ?_⟩
    unfold evLoad at hr
    obtain ⟨ti, _, hr⟩ := Option.bind_eq_some_iff.1 hr
    obtain ⟨cs, hcs, _⟩ := Option.bind_eq_some_iff.1 hr
    obtain ⟨ad, had⟩ := ptr_of_behind (h.slot c) hcs
    rw [had] at h1
    exact ⟨ad, had, by simpa [Instr.loadAt, Instr.sureAddr] using h1⟩
def resF (tmps : Array Value) : ResultVar → Sem Value
  | .tmp t => pure (tmps.getD t undef)
  | .cell c t => asAddr (tmps.getD c undef) >>= loadVar t
theorem results_eq {fn : Func} {tmps : Array Value} : results fn tmps = (fn.results.mapM (resF tmps) >>= fun vs => pure (if h : vs.size = 1 then vs[0] else .tuple vs)) := by
  unfold results
  have : (fun r : ResultVar => (match r with | .tmp t => pure (tmps.getD t undef) | .cell c t => do loadVar t (← asAddr (tmps.getD c undef)) : Sem Value)) = resF tmps := by
    funext r
    cases r <;> rfl
  rw [← this]
  rfl
theorem resultsL_ok [Kept] {P : Program} (h : Rel st a w G X F) : ∀ (rs : List ResultVar) (vs : List AV), resultsOf P st rs = some vs →
    ∃ ws : List Value, (rs.mapM (resF a.tmps)).run P w = .ok ws w ∧ ws.length = vs.length ∧ ∀ j (hj : j < vs.length), RV w G vs[j] (ws.getD j undef)
  | [], vs, hv => by
    obtain rfl := Option.some.inj hv
    exact ⟨[], rfl, rfl, fun j hj => by simp at hj⟩
  | r :: rs, vs, hv => by
    simp only [resultsOf] at hv
    obtain ⟨x, hx, hv⟩ := Option.bind_eq_some_iff.1 hv
    obtain ⟨us, hu, rfl⟩ := Option.map_eq_some_iff.1 hv
    obtain ⟨v, h2, h1⟩ := res_ok h hx
    obtain ⟨ws, h3, h4, h5⟩ := resultsL_ok h rs us hu
    refine ⟨v :: ws, ?_, by simp [h4], fun j hj => ?_⟩
    · rw [List.mapM_cons]
      cases r with
      | tmp t =>
        simp only at h1
        subst h1
        simp only [resF, Sem.run_bind, Sem.run_pure, Result.andThen_ok, h3]
      | cell c t =>
        obtain ⟨ad, h6, h7⟩ := h1
        have hadd : asAddr (.pointer (some ad)) = (pure ad : Sem Addr) := rfl
        simp only [resF, h6, hadd, Sem.run_bind, Sem.run_pure, Result.andThen_ok, h7, h3]
    · cases j with
      | zero => exact h2
      | succ j => exact h5 j (by simpa using hj)
theorem results_ok [Kept] {fn : Func} {vs : List AV} {P : Program} (h : Rel st a w G X F) (hv : resultsOf P st fn.results.toList = some vs) :
    ∃ v, (results fn a.tmps).run P w = .ok v w ∧ RV w G (tupOf vs) v := by
  obtain ⟨ws, h1, h2, h3⟩ := resultsL_ok h _ _ hv
  have hm : (fn.results.mapM (resF a.tmps)).run P w = .ok ws.toArray w := by
    rw [Array.mapM_eq_mapM_toList]
    rw [map_eq_pure_bind, Sem.run_bind, h1]
    simp only [Result.andThen_ok, Sem.run_pure]
  rw [results_eq, Sem.run_bind, hm]
  simp only [Result.andThen_ok]
  match vs, ws, h2, h3 with
  | [], [], _, _ => exact ⟨.tuple #[], by simp [Sem.run_pure], .tup _ _ rfl (fun j hj => by simp at hj)⟩
  | [x], [v], _, h3 => exact ⟨v, by simp [Sem.run_pure], h3 0 (by simp)⟩
  | x :: y :: xs, v :: u :: us, h2, h3 =>
    refine ⟨.tuple (v :: u :: us).toArray, ?_, .tup _ _ (by simpa using h2) (fun j hj => ?_)⟩
    · rw [dif_neg (by simp)]
      simp [Sem.run_pure]
    · have := h3 j hj
      rw [List.getD_eq_getElem?_getD] at this
      rw [Array.getD_eq_getD_getElem?]
      simpa using this
theorem boxesOf_get : ∀ {b : List Nat} {ios : List (List AV)}, boxesOf st b = some ios → ios.length = b.length ∧ ∀ i (h : i < ios.length), ∃ id, b[i]? = some id ∧ st.box id = some ios[i]
  | [], ios, h => by
    simp only [boxesOf, Option.some.injEq] at h
    subst h
    exact ⟨rfl, fun i hi => by simp at hi⟩
  | k :: r, ios, h => by
    simp only [boxesOf] at h
    obtain ⟨cs, h1, h⟩ := Option.bind_eq_some_iff.1 h
    obtain ⟨css, h2, rfl⟩ := Option.map_eq_some_iff.1 h
    obtain ⟨h3, h4⟩ := boxesOf_get h2
    refine ⟨by simp [h3], fun i hi => ?_⟩
    cases i with
    | zero => exact ⟨k, rfl, h1⟩
    | succ i => exact h4 i (by simpa using hi)
theorem finish_ok [Kept] {fn : Func} {md : List Mode} {np : Nat} {ret : AV} {fin : List (List AV)} (hnp : G.np = np) (h : Rel st a w G X F) {P : Program} (hf : finish P md fn.results.toList np st = some (ret, fin)) :
    ∃ v G', (results fn a.tmps).run P w = .ok v w ∧ Step false w w G G' X ∧ Inv w G' X ∧ RV w G' ret v ∧ 
      (mutSlots 0 md = [] → np ≤ fin.length ∧ ∀ i (h : i < fin.length), BoxOK w G' i fin[i]) ∧
      (mutSlots 0 md ≠ [] → np = 0 ∧ fin.length = (mutSlots 0 md).length ∧ ∀ i (h : i < fin.length), ∃ x, fin[i] = [x] ∧ RV w G' x (a.tmps.getD ((mutSlots 0 md).getD i 0) undef)) := by
  unfold finish at hf
  have hf1 := Option.bind_eq_some_iff.1 hf
  clear hf
  obtain ⟨vs, hv, hf⟩ := hf1
  obtain ⟨v, hr, hx⟩ := results_ok h hv
  simp only at hf
  split at hf
  · rename_i hm
    obtain ⟨ios, hb, hf⟩ := Option.bind_eq_some_iff.1 hf
    generalize hbd : List.range np ++ newBox np (tupOf vs) = b at hb hf
    generalize hgd : dedup ((tupOf vs).rows ++ ios.flatMap AV.rowss) = g at hf
    split at hf
    · rename_i hc
      obtain ⟨_, _, c3, c4, c5⟩ := hc
      obtain ⟨rfl, rfl⟩ := Prod.mk.inj (Option.some.inj hf)
      obtain ⟨hl, hbx⟩ := boxesOf_get hb
      have hsub : ∀ r, (r ∈ (tupOf vs).rows ∨ ∃ i, ∃ h : i < ios.length, r ∈ AV.rowss ios[i]) → r ∈ g := by
        intro r hr
        refine of_decide_eq_true (List.all_eq_true.1 c5 r ?_)
        rcases hr with hr | ⟨i, hi, hr⟩
        · exact List.mem_append_left _ hr
        · exact List.mem_append_right _ (List.mem_flatMap.2 ⟨_, List.getElem_mem hi, hr⟩)
      have hp : ∀ id off k, G.μ id = some k → RV w (G.ren g b) (if id ∈ b then .ptr (idx b id) off else .undef) (.pointer (some ⟨k, off, none⟩)) := by
        intro id off k hk
        split
        · rename_i hm
          exact .ptr _ _ _ (by simp only [Gh.ren]; rw [idx_get hm]; exact hk)
        · exact rvUndef _
      refine ⟨v, G.ren g b, hr, Step.ren _ _ _ (fun i hi => ?_), h.inv.ren c3 c4, hx.ren hp (fun id hid => hsub id (.inl hid)), fun _ => ⟨?_, fun i hi => ?_⟩, fun hne => absurd hm hne⟩
      · rw [hnp] at hi
        rw [← hbd, List.getElem?_append_left (by simpa using hi), List.getElem?_range hi]
      · rw [List.length_map, hl, ← hbd]; simp
      · have hi' : i < ios.length := by simpa using hi
        obtain ⟨id, h1, h2⟩ := hbx i hi'
        obtain ⟨k, ws, T, h6, h7, h8, h9, h10, h11⟩ := h.box id _ h2
        rw [List.getElem_map]
        refine ⟨k, ws, T, by simp only [Gh.ren, h1]; exact h6, h7, by simpa using h8, fun y hy => ?_, h10, fun j hj => ?_⟩
        · obtain ⟨y0, hy0, rfl⟩ := List.mem_map.1 hy
          exact rename_cell (h9 y0 hy0)
        · rw [List.getElem_map]
          exact (h11 j (by simpa using hj)).renamed b (fun id hid => hsub id (.inr ⟨i, hi', rowss_mem (by simpa using hj) hid⟩))
    · simp at hf
  · rename_i m ms hm
    generalize hgd : dedup ((tupOf vs).rows ++ AV.rowss ((m :: ms).map st.get)) = g at hf
    split at hf
    · rename_i hc
      obtain ⟨rfl, _, _, c4, c5⟩ := hc
      obtain ⟨rfl, rfl⟩ := Prod.mk.inj (Option.some.inj hf)
      have hsub : ∀ r, (r ∈ (tupOf vs).rows ∨ r ∈ AV.rowss ((m :: ms).map st.get)) → r ∈ g := by
        intro r hr
        exact of_decide_eq_true (List.all_eq_true.1 c5 r (List.mem_append.2 hr))
      refine ⟨v, G.ren g [], hr, Step.ren _ _ _ (fun i hi => by omega), h.inv.ren c4 rfl, hx.renamed [] (fun id hid => hsub id (.inl hid)), fun hn => absurd (hm.symm.trans hn) (by simp), fun _ => ⟨rfl, by rw [hm]; simp, fun i hi => ?_⟩⟩
      have hi' : i < (m :: ms).length := by simpa using hi
      refine ⟨rename g (st.get (m :: ms)[i]), by rw [List.getElem_map, List.getElem_map], ?_⟩
      rw [hm]
      have e1 : (m :: ms).getD i 0 = (m :: ms)[i] := by rw [List.getD_eq_getElem?_getD, List.getElem?_eq_getElem hi']; rfl
      rw [e1]
      refine (h.slot _).renamed [] (fun id hid => hsub id (.inr ?_))
      exact rowss_mem (cs := (m :: ms).map st.get) (j := i) (by rw [List.length_map]; exact hi') (by rw [List.getElem_map]; exact hid)
    · simp at hf
def Sound (E : Env) : Prop := ∀ f, E.ok f = true → ∀ fn c, E.P.funcs[f]? = some fn → fn.body = some c → codeOK (E.plan f) c = true ∧ fn.name ≠ "runtime.NumGoroutine" ∧ codePin (mutSlots 0 (E.md f)) c = true
theorem pad_getD (cargs : Array Value) (k i : Nat) : (cargs ++ Array.replicate k undef).getD i undef = cargs.getD i undef := by
  rw [Array.getD_eq_getD_getElem?, Array.getD_eq_getD_getElem?]
  by_cases h : i < cargs.size
  · rw [Array.getElem?_append_left h]
  · rw [Array.getElem?_append_right (by omega), Array.getElem?_eq_none (xs := cargs) (by omega), Array.getElem?_replicate]
    split <;> rfl
theorem body_ok [Kept] (hm : E.P.follows .mixedOrders = true) (hΦ : PhiOK E Φ) {n f : Nat} {args : List AV} {ios : List (List AV)} {ret : AV} {fin : List (List AV)} {fn : Func} {c : Code}
    (hfn : E.P.funcs[f]? = some fn) (hc : fn.body = some c) (hok : codeOK (E.plan f) c = true) (hpin : codePin (mutSlots 0 (E.md f)) c = true) (hb : body E Φ n f args ios = some (ret, fin)) : CallOK E.P (E.md f) f args ios ret fin := by
  intro w G X0 cargs hl hargs hinv hbox hfree hnp
  unfold body at hb
  simp only [hfn, Option.bind_some, hc] at hb
  · obtain ⟨⟨e, st⟩, h1, h2⟩ := Option.bind_eq_some_iff.1 hb
    have hrel : Rel (start (E.tree f) fn args ios) { tmps := cargs ++ Array.replicate (fn.ntmps - cargs.size) undef, defers := [] } w G (fun b => X0 b ∨ w.heap.size ≤ b) (fun i => (start (E.tree f) fn args ios).nx ≤ i) := {
      size := by simp only [start, Array.size_append, Array.size_replicate, hl]; omega
      defers := rfl
      slot := fun i => by
        simp only [St.get, start]
        by_cases hi : i < args.length
        · rw [getD_numbered i hi]
          have := hargs i hi
          rw [Array.getD_eq_getD_getElem?] at this ⊢
          rw [Array.getElem?_append_left (by omega)]
          exact this
        · rw [look_numbered]
          simp only [Nat.zero_le, if_true, Nat.sub_zero]
          rw [List.getElem?_eq_none (by omega)]
          exact rvUndef _
      box := fun id cs hcs => by
        simp only [St.box, start, look_numbered, Nat.zero_le, if_true, Nat.sub_zero] at hcs
        obtain ⟨hi, rfl⟩ := List.getElem?_eq_some_iff.1 hcs
        exact hbox id hi
      inv := hinv
      free := fun i hi => hfree i hi }
    refine calls_of_wp hfn hc ?_
    refine ev_ok (K := mutSlots 0 (E.md f)) hm hΦ c _ st e _ w G _ hok hpin (Nat.le_of_eq hnp) hrel (fun b hb => .inr hb) h1 fun a' w' hbeh => ?_
    obtain ⟨G', hs, hr, hsame⟩ := hbeh
    have htmp : ∀ i ∈ mutSlots 0 (E.md f), a'.tmps.getD i undef = cargs.getD i undef := by
      intro i hi
      rw [← pad_getD cargs (fn.ntmps - cargs.size) i, Array.getD_eq_getD_getElem?, Array.getD_eq_getD_getElem?, hsame i hi]
    have fini : ∀ (_ : finish E.P (E.md f) fn.results.toList ios.length st = some (ret, fin)), a'.defers = [] ∧ ∃ v, (results fn a'.tmps).run E.P w' = .ok v w' ∧
        ∃ v' G2, Ending.returned v = .returned v' ∧ Step false w w' G G2 (fun b => X0 b ∨ w.heap.size ≤ b) ∧ Inv w' G2 (fun b => X0 b ∨ w.heap.size ≤ b) ∧ RV w' G2 ret v' ∧
          (∀ i, i < ios.length → G2.μ i = G.μ i) ∧ (mutSlots 0 (E.md f) = [] → ios.length ≤ fin.length ∧ ∀ i (h : i < fin.length), BoxOK w' G2 i fin[i]) ∧
          (mutSlots 0 (E.md f) ≠ [] → ios = [] ∧ fin.length = (mutSlots 0 (E.md f)).length ∧ ∀ i (h : i < fin.length), ∃ x, fin[i] = [x] ∧ RV w' G2 x (cargs.getD ((mutSlots 0 (E.md f)).getD i 0) undef)) := by
      intro hf
      obtain ⟨v, G2, h3, h4, h5, h6, h8, h9⟩ := finish_ok (hs.np.trans hnp) hr hf
      refine ⟨hr.defers, v, h3, v, G2, rfl, hs.trans h4, h5, h6, fun i hi => ?_, h8, fun hne => ?_⟩
      · obtain ⟨b, _, _, k1, _⟩ := hbox i hi
        rw [k1]
        exact (hs.trans h4).mu i b (by omega) k1
      · obtain ⟨k1, k2, k3⟩ := h9 hne
        refine ⟨List.length_eq_zero_iff.1 k1, k2, fun i hi => ?_⟩
        obtain ⟨x, k4, k5⟩ := k3 i hi
        refine ⟨x, k4, ?_⟩
        rw [htmp _ ?_] at k5
        · exact k5
        · rw [List.getD_eq_getElem?_getD, List.getElem?_eq_getElem (by omega)]
          exact List.getElem_mem _
    cases e with
    | normal => exact fini h2
    | ret => exact fini h2
    | _ => simp at h2
theorem run_ok [Kept] (hm : E.P.follows .mixedOrders = true) (hS : Sound E) {ext : Nat → Option (List AV → List (List AV) → Option (AV × List (List AV)))}
    (hext : ∀ f g, ext f = some g → ∀ args ios ret fin, g args ios = some (ret, fin) → Enters E.P f ∧ CallOK E.P (E.md f) f args ios ret fin) : ∀ n, PhiOK E (run E ext n)
  | 0 => fun f args ios ret fin h => by simp [run] at h
  | n + 1 => fun f args ios ret fin h => by
    simp only [run] at h
    split at h
    · rename_i g hg
      exact hext f g hg args ios ret fin h
    · split at h
      · rename_i hok
        have h0 := h
        unfold body at h0
        obtain ⟨fn, h1, h0⟩ := Option.bind_eq_some_iff.1 h0
        obtain ⟨c, h2, _⟩ := Option.bind_eq_some_iff.1 h0
        obtain ⟨h3, h4, h5⟩ := hS f hok fn c h1 h2
        exact ⟨⟨fn, c, h1, h2, h4⟩, body_ok hm (run_ok hm hS hext n) h1 h2 h3 h5 h⟩
      · simp at h
end
end Go.Proofs.Ytggkeechdakccaa.Flat
/-
What is handed to a law: any value of its type, told.
-/
namespace Go.Proofs.Ytggkeechdakccaa.Flat
open Go.ChangeShapes Go.WideShapes
def Each (R : TypeId → AV → Prop) : List TypeId → List AV → Prop
  | [], [] => True
  | t :: ts, a :: as => R t a ∧ Each R ts as
  | _, _ => False
def Typed (P : Program) : Nat → TypeId → AV → Prop
  | 0, _, _ => False
  | n + 1, t, a => match P.underlying t with
    | some .bool => ∃ b, a = .bool b
    | some (.int k) => ∃ z, a = .int k z ∧ (Lit.int k z).wf = true
    | some .string => ∃ s, a = .str s ∧ s.size ≤ reachBytes
    | some (.slice e) => ∃ xs, a = .sl false xs ∧ (∀ x ∈ xs, Typed P n e x) ∧ xs.length * P.bytesOf e ≤ reachBytes ∧ xs.length ≤ maxLen
    | some (.struct fs) => ∃ as : List AV, a = .agg (as.flatMap AV.cells) ∧ Each (Typed P n) (fs.toList.map (·.type)) as
    | _ => False
theorem typed_int {P : Program} {n : Nat} {t : TypeId} {k : IntKind} {a : AV} (h : P.underlying t = some (.int k)) (ha : Typed P n t a) : ∃ z, a = .int k z ∧ (Lit.int k z).wf = true := by
  cases n with
  | zero => exact ha.elim
  | succ n => simpa only [Typed, h] using ha
theorem typed_slice {P : Program} {n : Nat} {t e : TypeId} {a : AV} (h : P.underlying t = some (.slice e)) (ha : Typed P n t a) : ∃ m xs, n = m + 1 ∧ a = .sl false xs ∧ (∀ x ∈ xs, Typed P m e x) ∧ xs.length * P.bytesOf e ≤ reachBytes ∧ xs.length ≤ maxLen := by
  cases n with
  | zero => exact ha.elim
  | succ n =>
    simp only [Typed, h] at ha
    obtain ⟨xs, h1⟩ := ha
    exact ⟨n, xs, rfl, h1⟩
theorem rows_of {α : Type} {f : α → AV} {Q : α → Prop} : ∀ {xs : List AV}, (∀ x ∈ xs, ∃ y, x = f y ∧ Q y) → ∃ ys : List α, xs = ys.map f ∧ ∀ y ∈ ys, Q y
  | [], _ => ⟨[], rfl, fun y hy => by simp at hy⟩
  | x :: xs, h => by
    obtain ⟨y, rfl, hq⟩ := h x (by simp)
    obtain ⟨ys, rfl, hqs⟩ := rows_of (xs := xs) fun z hz => h z (by simp [hz])
    refine ⟨y :: ys, rfl, fun z hz => ?_⟩
    rcases List.mem_cons.1 hz with rfl | hz
    · exact hq
    · exact hqs z hz
def okFields (P : Program) (ok : TypeId → Bool) : Nat → List Field → Option Nat
  | off, [] => some off
  | off, f :: r => if f.offset = off ∧ ok f.type = true then okFields P ok (off + P.cellsOf f.type) r else none
def okShape (P : Program) (l : List TypeId) (t : TypeId) : Bool := match P.underlying t with
  | some .bool => P.cellsOf t == 1
  | some (.int _) => P.cellsOf t == 1
  | some .string => P.cellsOf t == 1
  | some (.slice e) => P.cellsOf t == 1 && l.contains e && decide (0 < P.cellsOf e)
  | some (.struct fs) => okFields P l.contains 0 fs.toList == some (P.cellsOf t)
  | _ => false
def okTys (P : Program) (l : List TypeId) : Bool := l.all (okShape P l)
def old (w : World) : Cells := fun fl b _ => fl = false ∧ b < w.heap.size
section
variable {H : Type} {enc : TypeId × Value → H} {P : Program} {w : World} {spare : Nat → Bool} {held : Bool}
theorem trod_pos {m : Nat} {t : TypeId} {cs : List Value} {x : DataW H × List MemPlace} (h : DataW.trod enc P w 0 spare held m t cs = some x) : ∃ k, m = k + 1 := by
  cases m with
  | zero => simp [DataW.trod] at h
  | succ k => exact ⟨k, rfl⟩
theorem trod_bool' {m : Nat} {t : TypeId} {cs : List Value} {x : DataW H × List MemPlace} (ht : P.underlying t = some .bool) (h : DataW.trod enc P w 0 spare held m t cs = some x) : ∃ b, cs = [.bool b] := by
  obtain ⟨k, rfl⟩ := trod_pos h
  unfold DataW.trod at h
  rw [ht] at h
  split at h <;> simp_all
theorem trod_str' {m : Nat} {t : TypeId} {cs : List Value} {x : DataW H × List MemPlace} (ht : P.underlying t = some .string) (h : DataW.trod enc P w 0 spare held m t cs = some x) : ∃ s, cs = [.string s] ∧ x.1 = .lit (.string s.data.toList) := by
  obtain ⟨k, rfl⟩ := trod_pos h
  unfold DataW.trod at h
  rw [ht] at h
  split at h <;> simp_all
  rw [← h.2]
def Tells (w : World) (a : AV) (cs : List Value) : Prop := a.cells.length = cs.length ∧ (∀ y ∈ a.cells, y.isCell = true) ∧ ∀ j (h : j < a.cells.length), RO w (old w) a.cells[j] (cs.getD j undef)
theorem tells_one {a : AV} {v : Value} (hc : a.cells = [a]) (hi : a.isCell = true) (hr : RO w (old w) a v) : Tells w a [v] := by
  refine ⟨by rw [hc]; rfl, fun y hy => ?_, fun j hj => ?_⟩
  · rw [hc] at hy
    obtain rfl : y = a := by simpa using hy
    exact hi
  · have hj0 : j = 0 := by rw [hc] at hj; simpa using hj
    subst hj0
    have : a.cells[0] = a := by simp only [hc]; rfl
    rw [this]
    exact hr
theorem weights_all {e : TypeId} : ∀ {ds : List (DataW H)}, (DataW.weightsAll P e ds).all (· ≤ reachBytes) = true → ∀ d ∈ ds, (d.weights P e).all (· ≤ reachBytes) = true
  | [], _, d, hd => by simp at hd
  | c :: r, h, d, hd => by
    simp only [DataW.weightsAll, List.all_append, Bool.and_eq_true] at h
    rcases List.mem_cons.1 hd with rfl | hd
    · exact h.1
    · exact weights_all h.2 d hd
theorem weights_each : ∀ {ts : List TypeId} {ds : List (DataW H)}, (DataW.weightsEach P ts ds).all (· ≤ reachBytes) = true → ∀ (i : Nat) (t : TypeId) (d : DataW H), ts[i]? = some t → ds[i]? = some d → (d.weights P t).all (· ≤ reachBytes) = true
  | [], _, _, i, t, d, ht, _ => by simp at ht
  | _ :: _, [], _, i, t, d, _, hd => by simp at hd
  | t0 :: ts, d0 :: ds, h, i, t, d, ht, hd => by
    simp only [DataW.weightsEach, List.all_append, Bool.and_eq_true] at h
    cases i with
    | zero =>
      simp only [List.getElem?_cons_zero, Option.some.injEq] at ht hd
      subst ht; subst hd
      exact h.1
    | succ i => exact weights_each h.2 i t d (by simpa using ht) (by simpa using hd)
theorem okTy_cells {l : List TypeId} {t : TypeId} (h : okShape P l t = true) {m : Nat} {cs : List Value} {x : DataW H × List MemPlace} (hx : DataW.trod enc P w 0 spare held m t cs = some x) : cs.length = P.cellsOf t := by
  simp only [okShape] at h
  split at h
  · rename_i hu
    obtain ⟨b, rfl⟩ := trod_bool' hu hx
    have : P.cellsOf t = 1 := by simpa using h
    rw [this]; rfl
  · rename_i k hu
    obtain ⟨z, rfl, _⟩ := DataW.trod_int hu hx
    have : P.cellsOf t = 1 := by simpa using h
    rw [this]; rfl
  · rename_i hu
    obtain ⟨s, rfl, _⟩ := trod_str' hu hx
    have : P.cellsOf t = 1 := by simpa using h
    rw [this]; rfl
  · rename_i e hu
    simp only [Bool.and_eq_true] at h
    have : P.cellsOf t = 1 := by simpa using h.1.1
    rw [this]
    rcases DataW.trod_slice hu hx with ⟨rfl, _⟩ | ⟨a, len, cap, elems, rest, k, _, rfl, _⟩ <;> rfl
  · rename_i fs hu
    obtain ⟨xs, k, _, _, hl, _⟩ := DataW.trod_struct hu hx
    exact hl
  · simp at h
theorem fields_tell {n : Nat} {ts : List TypeId} {cs : List Value} (hts : okTys P ts = true) (ih : ∀ t (l : List Value) (x : DataW H × List MemPlace), ts.contains t = true → DataW.trod enc P w 0 spare held n t l = some x → (x.1.weights P t).all (· ≤ reachBytes) = true → ∃ a, Typed P n t a ∧ Tells w a l) :
    ∀ (l : List Field) (off N : Nat), okFields P ts.contains off l = some N → N ≤ cs.length →
      (∀ f ∈ l, ∃ x, DataW.trod enc P w 0 spare held n f.type ((cs.drop f.offset).take (P.cellsOf f.type)) = some x ∧ (x.1.weights P f.type).all (· ≤ reachBytes) = true) →
      ∃ as : List AV, Each (Typed P n) (l.map (·.type)) as ∧ off + (as.flatMap AV.cells).length = N ∧ (∀ y ∈ as.flatMap AV.cells, y.isCell = true) ∧
        ∀ j (h : j < (as.flatMap AV.cells).length), RO w (old w) (as.flatMap AV.cells)[j] (cs.getD (off + j) undef)
  | [], off, N, h, _, _ => by
    simp only [okFields, Option.some.injEq] at h
    subst h
    exact ⟨[], trivial, rfl, fun y hy => by simp at hy, fun j hj => by simp at hj⟩
  | f :: r, off, N, h, hN, hf => by
    simp only [okFields] at h
    split at h
    · rename_i hc
      obtain ⟨x, hx, hw⟩ := hf f (by simp)
      obtain ⟨a, ha, hl, hci, hro⟩ := ih f.type _ x hc.2 hx hw
      obtain ⟨as, h1, h2, h3, h4⟩ := fields_tell hts ih r _ N h hN (fun g hg => hf g (by simp [hg]))
      have hlen := okTy_cells (List.all_eq_true.1 hts _ (by simpa using hc.2)) hx
      rw [hlen] at hl
      refine ⟨a :: as, ⟨ha, h1⟩, ?_, ?_, ?_⟩
      · rw [List.flatMap_cons, List.length_append, hl]; omega
      · intro y hy
        rw [List.flatMap_cons] at hy
        rcases List.mem_append.1 hy with hy | hy
        · exact hci y hy
        · exact h3 y hy
      · intro j hj
        simp only [List.flatMap_cons] at hj ⊢
        by_cases hja : j < a.cells.length
        · rw [List.getElem_append_left hja]
          have := hro j hja
          rw [List.getD_eq_getElem?_getD, List.getElem?_take, if_pos (by omega), List.getElem?_drop, hc.1] at this
          rw [List.getD_eq_getElem?_getD]
          exact this
        · rw [List.getElem_append_right (by omega)]
          have := h4 (j - a.cells.length) (by rw [List.length_append] at hj; omega)
          have e : off + P.cellsOf f.type + (j - a.cells.length) = off + j := by omega
          rw [e] at this
          exact this
    · simp at h
theorem tells {ts : List TypeId} (hts : okTys P ts = true) : ∀ (n : Nat) (t : TypeId) (cs : List Value) (x : DataW H × List MemPlace), ts.contains t = true → DataW.trod enc P w 0 spare held n t cs = some x → (x.1.weights P t).all (· ≤ reachBytes) = true →
    ∃ a, Typed P n t a ∧ Tells w a cs
  | 0, t, cs, x, _, hx, _ => by simp [DataW.trod] at hx
  | n + 1, t, cs, x, hm, hx, hw => by
    have h : okShape P ts t = true := List.all_eq_true.1 hts _ (by simpa using hm)
    simp only [okShape] at h
    simp only [Typed]
    split at h
    · rename_i hu
      obtain ⟨b, rfl⟩ := trod_bool' hu hx
      exact ⟨.bool b, ⟨b, rfl⟩, tells_one rfl rfl (.bool _ _)⟩
    · rename_i k hu
      obtain ⟨z, rfl, _, hwf⟩ := DataW.trod_int hu hx
      exact ⟨.int k z, ⟨z, rfl, hwf⟩, tells_one rfl rfl (.int _ _ _)⟩
    · rename_i hu
      obtain ⟨s, rfl, hd⟩ := trod_str' hu hx
      rw [hd] at hw
      simp only [DataW.weights, List.all_cons, List.all_nil, Bool.and_true, decide_eq_true_eq] at hw
      exact ⟨.str s, ⟨s, rfl, by simpa using hw⟩, tells_one rfl rfl (.str _ _)⟩
    · rename_i e hu
      simp only [Bool.and_eq_true, decide_eq_true_eq] at h
      rcases DataW.trod_slice hu hx with ⟨rfl, rfl⟩ | ⟨a, len, cap, elems, rest, k, hk, rfl, rfl, _, hl, hmax, hlen, hel, _, _⟩
      · exact ⟨.sl false [], ⟨[], rfl, fun x hx => by simp at hx, by simp, by simp⟩, tells_one rfl rfl (.slNil _ _ _ _ (fun _ => rfl))⟩
      · obtain rfl : n = k := by omega
        simp only [DataW.weights, hu, List.all_cons, List.all_append, Bool.and_eq_true, decide_eq_true_eq, List.length_map] at hw
        have each : ∀ i, i < len → ∃ y l, elems[i]? = some y ∧ w.cells? 0 (a.add (i * P.cellsOf e)) (P.cellsOf e) = some l ∧ ∃ b, Typed P n e b ∧ Tells w b l := by
          intro i hi
          have h1 := hel i hi
          have h2 : i < elems.length := by omega
          rw [List.getElem?_eq_getElem h2] at h1
          obtain ⟨l, h3, h4⟩ := Option.bind_eq_some_iff.1 h1
          obtain ⟨b, h5, h6⟩ := tells hts n e l _ h.1.2 h4 (weights_all hw.2.1 _ (List.mem_map.2 ⟨_, List.getElem_mem h2, rfl⟩))
          exact ⟨_, l, List.getElem?_eq_getElem h2, h3, b, h5, h6⟩
        -- the elements, one by one
        have build : ∀ q, q ≤ len → ∃ xs : List AV, xs.length = q ∧ ∀ i b, xs[i]? = some b → Typed P n e b ∧ ∃ l, w.cells? 0 (a.add (i * P.cellsOf e)) (P.cellsOf e) = some l ∧ Tells w b l := by
          intro q
          induction q with
          | zero => exact fun _ => ⟨[], rfl, fun i b hb => by simp at hb⟩
          | succ q ihq =>
            intro hq
            obtain ⟨xs, h1, h2⟩ := ihq (by omega)
            obtain ⟨_, l, _, h3, b, h4, h5⟩ := each q (by omega)
            refine ⟨xs ++ [b], by simp [h1], fun i c hc => ?_⟩
            by_cases hi : i < xs.length
            · rw [List.getElem?_append_left hi] at hc
              exact h2 i c hc
            · rw [List.getElem?_append_right (by omega)] at hc
              have hi0 : i - xs.length = 0 := by
                have := (List.getElem?_eq_some_iff.1 hc).1
                simp at this; omega
              rw [hi0] at hc
              obtain rfl : b = c := by simpa using hc
              obtain rfl : i = q := by omega
              exact ⟨h4, l, h3, h5⟩
        obtain ⟨xs, hxl, hxs⟩ := build len (Nat.le_refl _)
        refine ⟨.sl false xs, ⟨xs, rfl, fun b hb => ?_, ?_, ?_⟩, tells_one rfl rfl ?_⟩
        · obtain ⟨i, hi⟩ := List.getElem?_of_mem hb
          exact (hxs i b hi).1
        · rw [hxl, ← hlen]
          refine Nat.le_trans (Nat.mul_le_mul_right _ ?_) hw.1
          omega
        · rw [hxl]; omega
        · by_cases hne : xs = []
          · subst hne
            simp only [List.length_nil] at hxl
            subst hxl
            exact .slNil _ _ _ _ (fun e => by simp at e)
          · have hsz : ∀ b ∈ xs, b.cells.length = P.cellsOf e := by
              intro b hb
              obtain ⟨i, hi⟩ := List.getElem?_of_mem hb
              obtain ⟨_, l, h3, h4⟩ := hxs i b hi
              rw [h4.1, (World.cells?_some h3).2.1]
            have hfl : (flat xs).length = xs.length * P.cellsOf e := flat_length hsz
            have hsp : a.spot = none := by
              have h0 : 0 < xs.length := List.length_pos_iff.2 hne
              obtain ⟨_, l, h3, h4⟩ := hxs 0 _ (List.getElem?_eq_getElem h0)
              obtain ⟨_, h5, h6⟩ := World.cells?_some h3
              have h7 := h6 0 h.2
              have ha0 : (a.add (0 * P.cellsOf e)).add 0 = a := by rw [Nat.zero_mul]; simp [Addr.add]
              rw [ha0, List.getElem?_eq_getElem (by omega)] at h7
              unfold World.cell? at h7
              split at h7
              · split at h7
                · simp at h7
                · rename_i hq; simpa using hq
              · simp at h7
            have cellj : ∀ j, j < xs.length * P.cellsOf e → ∃ v, w.cell? (a.add j) = some v ∧ ∃ (hj : j < (flat xs).length), RO w (old w) (flat xs)[j] v := by
              intro j hj
              have hpos := h.2
              have hq : j / P.cellsOf e < xs.length := Nat.div_lt_of_lt_mul (by rw [Nat.mul_comm]; exact hj)
              have hr : j % P.cellsOf e < P.cellsOf e := Nat.mod_lt _ hpos
              have hjeq : j / P.cellsOf e * P.cellsOf e + j % P.cellsOf e = j := by rw [Nat.mul_comm]; exact Nat.div_add_mod j _
              obtain ⟨_, l, h3, h4⟩ := hxs _ _ (List.getElem?_eq_getElem hq)
              obtain ⟨_, h5, h6⟩ := World.cells?_some h3
              have h7 := h6 _ hr
              have h8 : j % P.cellsOf e < l.length := by omega
              have hspot : (a.add (j / P.cellsOf e * P.cellsOf e)).add (j % P.cellsOf e) = a.add j := by
                rw [add_eq hsp, add_eq rfl, add_eq hsp]
                simp only [Nat.add_assoc, hjeq]
              rw [hspot, List.getElem?_eq_getElem h8] at h7
              refine ⟨_, h7, by rw [hfl]; exact hj, ?_⟩
              have h9 := flat_at hsz (j / P.cellsOf e) (j % P.cellsOf e) _ (List.getElem?_eq_getElem hq) hr
              rw [hjeq, List.getElem?_eq_getElem (by rw [hfl]; exact hj), List.getElem?_eq_getElem (by rw [h4.1]; exact h8)] at h9
              rw [Option.some.inj h9]
              have := h4.2.2 (j % P.cellsOf e) (by rw [h4.1]; exact h8)
              rw [List.getD_eq_getElem?_getD, List.getElem?_eq_getElem h8] at this
              exact this
            have hcs : ∀ j, j < xs.length * P.cellsOf e → w.cell? (a.add j) = some ((w.cell? (a.add j)).getD undef) := by
              intro j hj
              obtain ⟨v, hv, _⟩ := cellj j hj
              rw [hv]; rfl
            have hblk : a.block < w.heap.size := by
              have h0 : 0 < xs.length := List.length_pos_iff.2 hne
              obtain ⟨v, hv, _⟩ := cellj 0 (Nat.mul_pos h0 h.2)
              refine Classical.byContradiction fun hn => ?_
              unfold World.cell? at hv
              rw [add_eq hsp, Array.getElem?_eq_none (by simpa using hn)] at hv
              simp at hv
            have hci : ∀ y ∈ flat xs, y.isCell = true := by
              intro y hy
              obtain ⟨b, hb, hyb⟩ := List.mem_flatMap.1 hy
              obtain ⟨i, hi⟩ := List.getElem?_of_mem hb
              obtain ⟨_, l, _, h4⟩ := hxs i b hi
              exact h4.2.1 y hyb
            rw [← hxl]
            refine .sl _ false xs a cap (P.cellsOf e) (fun j => (w.cell? (a.add j)).getD undef) hne (by omega) hsp hsz hci (fun j hj => ⟨⟨rfl, hblk⟩, hcs j hj⟩) (fun j hj => ?_)
            obtain ⟨v, hv, hj', hr⟩ := cellj j (by rw [← hfl]; exact hj)
            simp only [hv, Option.getD_some]
            exact hr.mono (fun fl b o hs => ⟨.inr hs.1, hs⟩) (fun _ _ _ _ => rfl)
    · rename_i fs hu
      have hN : okFields P ts.contains 0 fs.toList = some (P.cellsOf t) := by simpa using h
      obtain ⟨xs, k, hk, rfl, hl, hlen, hf⟩ := DataW.trod_struct hu hx
      obtain rfl : n = k := by omega
      simp only [DataW.weights, hu] at hw
      obtain ⟨as, h1, h2, h3, h4⟩ := fields_tell (cs := cs) hts (fun t l x => tells hts n t l x) fs.toList 0 _ hN (by omega) (fun f hfm => by
        obtain ⟨i, hi⟩ := List.getElem?_of_mem hfm
        have hi' : fs[i]? = some f := by simpa using hi
        have h5 := hf i f hi'
        have h6 : i < xs.length := by rw [hlen]; exact (Array.getElem?_eq_some_iff.1 hi').1
        rw [List.getElem?_eq_getElem h6] at h5
        exact ⟨_, h5, weights_each hw i f.type _ (by simp [hi']) (by simp [List.getElem?_eq_getElem h6])⟩)
      exact ⟨.agg (as.flatMap AV.cells), ⟨as, rfl, h1⟩, by simp only [AV.cells]; omega, h3, fun j hj => by have := h4 j hj; rw [Nat.zero_add] at this; exact this⟩
    · simp at h
end
end Go.Proofs.Ytggkeechdakccaa.Flat
/-
A law that the evaluator finds true is true.
-/
namespace Go.Proofs.Ytggkeechdakccaa.Flat
open Go.ChangeShapes Go.WideShapes Go.RowKit
theorem handed {H : Type} {enc : TypeId × Value → H} {P : Program} {w : World} {spare : Nat → Bool} {held : Bool} {r : Reach} {b0 : Nat} {ts : List TypeId} {t : TypeId} {v : Value} {d : DataW H} {p : List MemPlace} (hts : okTys P ts = true) (ho : ts.contains t = true)
    (hv : Value.okWide P w r b0 t v) (h : DataW.Trod enc P w 0 spare held t v d p) (hw : (d.weights P t).all (· ≤ reachBytes) = true) : ∃ n a, Typed P n t a ∧ RO w (old w) a v := by
  obtain ⟨n, hm⟩ := h
  obtain ⟨a, ha, hl, hc, hr⟩ := tells hts n t _ _ ho hm hw
  refine ⟨n, a, ha, ?_⟩
  have one : ∀ {u : Value}, a.cells = [a] → v = u → u.cells.toList = [u] → RO w (old w) a v := by
    intro u h1 h2 h3
    subst h2
    have := hr 0 (by rw [h1]; simp)
    rw [h3] at this
    simpa only [h1, List.getElem_cons_zero, List.getD_cons_zero] using this
  cases n with
  | zero => exact ha.elim
  | succ n =>
    simp only [Typed] at ha
    split at ha
    · rename_i hu
      obtain ⟨b, rfl⟩ := ha
      obtain ⟨c, rfl⟩ := okWide_bool hu hv
      exact one rfl rfl rfl
    · rename_i k hu
      obtain ⟨z, rfl, _⟩ := ha
      obtain ⟨c, rfl⟩ := okWide_int hu hv
      exact one rfl rfl rfl
    · rename_i hu
      obtain ⟨s, rfl, _⟩ := ha
      obtain ⟨c, rfl⟩ := okWide_string hu hv
      exact one rfl rfl rfl
    · rename_i e hu
      obtain ⟨xs, rfl, _⟩ := ha
      obtain ⟨ad, len, cap, rfl⟩ := okWide_slice hu hv
      exact one rfl rfl rfl
    · rename_i fs hu
      obtain ⟨as, rfl, _⟩ := ha
      obtain ⟨cs, rfl, _⟩ := okWide_struct hu hv
      refine .agg _ _ cs (by simpa [AV.cells, Value.cells] using hl.symm) fun j hj => ?_
      have := hr j hj
      rw [Array.getD_eq_getD_getElem?, ← Array.getElem?_toList, ← List.getD_eq_getElem?_getD]
      exact this
    · exact ha.elim
theorem law_okK [Kept] {E : Env} {ext : Nat → Option (List AV → List (List AV) → Option (AV × List (List AV)))} {W : World} (hkp : ∀ b v, Kept.block b = some v → W.heap[b]? = some v) (hm : E.P.follows .mixedOrders = true) (hS : Sound E)
    (hext : ∀ f g, ext f = some g → ∀ args ios ret fin, g args ios = some (ret, fin) → Enters E.P f ∧ CallOK E.P (E.md f) f args ios ret fin)
    {k f : Nat} {as : List AV} {args : Array Value} {b : Bool} (hrun : run E ext k f as [] = some (.bool b, [])) (hl : args.size = as.length) (hr : ∀ j (h : j < as.length), RO W (old W) as[j] (args.getD j undef)) :
    Calls E.P f args W fun e W' => e = .returned (.bool b) ∧ Below W.heap.size W W' := by
  have hc := (run_ok hm hS hext k _ _ _ _ _ hrun).2 W (Gh.lent W.heap.size (old W)) (fun _ => False) args hl (fun j hj => .ro (hr j hj))
    (Inv.lent (G := Gh.lent W.heap.size (old W)) (Nat.le_refl _) (fun fl b o hs => ⟨hs.2, fun _ => hs.2, fun e => by rw [hs.1] at e; simp at e⟩) (fun b v hb => ⟨hkp b v hb, fun h9 => h9.elim id fun h9 => by have := heap_lt (hkp b v hb); omega⟩)) (fun i hi => by simp at hi) (fun _ _ => ⟨fun h => h, rfl⟩) rfl
  refine hc.mono ?_
  rintro e W' ⟨v, G', rfl, hs, _, hv, _⟩
  rw [bool_of_rv hv]
  exact ⟨rfl, hs.os, hs.tape, hs.output, hs.size, fun q hq => hs.block q hq (by simp; omega)⟩
theorem law_ok {E : Env} {ext : Nat → Option (List AV → List (List AV) → Option (AV × List (List AV)))} (hm : E.P.follows .mixedOrders = true) (hS : Sound E)
    (hext : ∀ f g, ext f = some g → ∀ args ios ret fin, g args ios = some (ret, fin) → Enters E.P f ∧ CallOK E.P (E.md f) f args ios ret fin)
    {k f : Nat} {as : List AV} {args : Array Value} {W : World} {b : Bool} (hrun : run E ext k f as [] = some (.bool b, [])) (hl : args.size = as.length) (hr : ∀ j (h : j < as.length), RO W (old W) as[j] (args.getD j undef)) :
    Calls E.P f args W fun e W' => e = .returned (.bool b) ∧ Below W.heap.size W W' := law_okK (fun b v h => by cases h) hm hS hext hrun hl hr
end Go.Proofs.Ytggkeechdakccaa.Flat
/-
Library functions that are not entered (slices.Sort, slices.Compact of whole numbers): what a call comes to, by the kit's contracts.
-/
namespace Go.Proofs.Ytggkeechdakccaa.Flat
open Go.Sort
def intsOf : List AV → Option (List Int)
  | [] => some []
  | .int .i64 z :: r => (intsOf r).map (z :: ·)
  | _ => none
theorem intsOf_some : ∀ {xs : List AV} {zs : List Int}, intsOf xs = some zs → xs = zs.map (AV.int .i64)
  | [], zs, h => by
    simp only [intsOf, Option.some.injEq] at h
    subst h; rfl
  | x :: r, zs, h => by
    unfold intsOf at h
    split at h
    · rename_i heq; simp at heq
    · rename_i z r' heq
      obtain ⟨rfl, rfl⟩ := List.cons.inj heq
      obtain ⟨ys, h1, rfl⟩ := Option.map_eq_some_iff.1 h
      rw [intsOf_some h1]; rfl
    · simp at h
theorem intsOf_map (zs : List Int) : intsOf (zs.map (AV.int .i64)) = some zs := by
  induction zs with
  | nil => rfl
  | cons z r ih => simp [intsOf, ih]
section
variable {P : Program} {w w' : World} {G : Gh} {X : Nat → Prop}
theorem flat_ints (zs : List Int) : flat (zs.map (AV.int .i64)) = zs.map (AV.int .i64) := by
  induction zs with
  | nil => rfl
  | cons z r ih => rw [List.map_cons, flat_cons, ih]; rfl
theorem Inv.written [Kept] (hi : Inv w G X) {id g : Nat} {cur' : Array Value} {e : TypeId} (hal : G.al id) (hown : G.own id g) (hlim : G.lim id = 0) (hset : w'.heap[g]? = some (.cells cur' e (0, 0)))
    (hoth : ∀ b, b < w.heap.size → b ≠ g → w'.heap[b]? = w.heap[b]?) (hsz : w.heap.size ≤ w'.heap.size) (ρ' : Nat → Value) (hρ : ∀ i, i ≠ id → ρ' i = G.ρ i) : Inv w' { G with ρ := ρ' } X where
  nb := Nat.le_trans hi.nb hsz
  kept := hi.keeps fun b hb hx => hoth b hb fun e => hx (by rw [e]; exact (hi.row id g hal hown).1)
  row := fun i b h1 h2 => by have := hi.row i b h1 h2; exact ⟨this.1, Nat.lt_of_lt_of_le this.2.1 hsz, this.2.2⟩
  plain := fun i b h1 h2 => by
    by_cases hb : b = g
    · subst hb; exact ⟨_, _, hset⟩
    · obtain ⟨c, e0, h3⟩ := hi.plain i b h1 h2
      exact ⟨c, e0, (hoth b (hi.row i b h1 h2).2.1 hb).trans h3⟩
  box := fun i b h1 => by have := hi.box i b h1; exact ⟨this.1, Nat.lt_of_lt_of_le this.2.1 hsz, this.2.2⟩
  rows := hi.rows
  boxes := hi.boxes
  rowBox := hi.rowBox
  lt := fun fl b o hs => Nat.lt_of_lt_of_le (hi.lt fl b o hs) hsz
  old := hi.old
  new := fun b o hs => by
    obtain ⟨h1, c, e0, h2⟩ := hi.new b o hs
    refine ⟨h1, ?_⟩
    by_cases hb : b = g
    · subst hb; exact ⟨_, _, hset⟩
    · exact ⟨c, e0, (hoth b (hi.lt true b o hs) hb).trans h2⟩
  sBox := hi.sBox
  sRow := fun fl b o i hs h1 h2 => by
    by_cases he : i = id
    · subst he
      have := (hi.sRow fl b o i hs h1 h2).2
      omega
    · show (ρ' i).ownBlock = some b ∧ o < G.lim i
      rw [hρ i he]
      exact hi.sRow fl b o i hs h1 h2
theorem Step.written [Kept] (hi : Inv w G X) {id g : Nat} (hal : G.al id) (hown : G.own id g) (hlim : G.lim id = 0) (hoth : ∀ b, b < w.heap.size → b ≠ g → w'.heap[b]? = w.heap[b]?) (hsz : w.heap.size ≤ w'.heap.size)
    (hos : w'.os = w.os) (htape : w'.tape = w.tape) (hout : w'.output = w.output) (ρ' : Nat → Value) : Step false w w' G { G with ρ := ρ' } X :=
  ⟨hos, htape, hout, hsz, fun b hb hx => hoth b hb (fun e => hx (by rw [e]; exact (hi.row id g hal hown).1)), rfl, fun _ _ _ _ hs => hs,
    fun fl b o _ hs => World.cell?_of_block (hoth b (hi.lt fl b o hs) (fun e => by have := (hi.sRow fl b o id hs hal (by rw [e]; exact hown)).2; omega)), fun _ _ _ hs => .inl hs, rfl, fun _ _ _ h => h⟩
theorem RowAt.holds {F : Nat → Prop} {e : Nat} {zs : List Int} {g off cap : Nat} {cur : Array Value} {Fs : Nat → Nat → Prop} (h : RowAt w G.S F e 1 (zs.map (AV.int .i64)) g off cap cur Fs) : Holds (Value.int .i64) w g off zs.toArray := by
  intro j hj
  have hj' : j < zs.length := by simpa using hj
  have h1 := h.cellAt (j := j) (by simpa using hj')
  have h2 := h.rel j (by rw [flat_ints]; simpa using hj')
  have e1 : (flat (zs.map (AV.int .i64)))[j]'(by rw [flat_ints]; simpa using hj') = AV.int .i64 zs[j] := by
    simp only [flat_ints, List.getElem_map]
  rw [e1] at h2
  have h3 := h2.toRO (fun _ _ _ => by simp)
  generalize hv : cur.getD (off + j) undef = v at h1 h3
  cases h3
  refine ⟨?_, ?_⟩
  · rw [h1]
    congr 2
    rw [getElem!_pos _ _ (by simpa using hj')]
    simp
  · unfold World.frozen?
    simp only [h.heap]
    simp
theorem putCells_get {off : Nat} {d : Array Int} {cur : Array Value} (j : Nat) (hj : j < d.size) (hs : off + d.size ≤ cur.size) : (putCells (Value.int .i64) off d cur).getD (off + j) undef = .int .i64 d[j] := by
  unfold putCells
  rw [Array.getD_eq_getD_getElem?, Array.getElem?_mapIdx, Array.getElem?_eq_getElem (by omega)]
  simp only [Option.map_some, Option.getD_some]
  rw [if_pos ⟨by omega, by omega⟩, Nat.add_sub_cancel_left, getElem!_pos d j hj]
theorem putRow_heap {g off n : Nat} {d : Array Int} {cur : Array Value} {e : TypeId} {os : Array Obj} (h : w.heap[g]? = some (.cells cur e (0, 0))) :
    (grow (putRow (Value.int .i64) (Sort.ahead w n) g off d) os).heap[g]? = some (.cells (putCells (Value.int .i64) off d cur) e (0, 0)) ∧
      (∀ b, b < w.heap.size → b ≠ g → (grow (putRow (Value.int .i64) (Sort.ahead w n) g off d) os).heap[b]? = w.heap[b]?) ∧ w.heap.size ≤ (grow (putRow (Value.int .i64) (Sort.ahead w n) g off d) os).heap.size := by
  have hg : g < w.heap.size := (Array.getElem?_eq_some_iff.1 h).1
  refine ⟨?_, fun b hb hne => ?_, by simp [grow, putRow, mapBlock, Sort.ahead]⟩
  · simp only [grow, putRow, mapBlock, Sort.ahead]
    rw [Array.getElem?_append_left (by simpa using hg), Array.getElem?_modify, if_pos rfl, h]
    rfl
  · simp only [grow, putRow, mapBlock, Sort.ahead]
    rw [Array.getElem?_append_left (by simpa using hb), Array.getElem?_modify, if_neg (fun e => hne e.symm)]
theorem grow_empty' (w : World) : grow w #[] = w := by simp [grow]
def ascending (zs : List Int) : List Int := zs.mergeSort fun x y => decide (x ≤ y)
def sortExt : List AV → List (List AV) → Option (AV × List (List AV))
  | [.own id false e 1 xs], [] => (intsOf xs).bind fun zs => if zs.length < 4611686018427387904 then some (.tup [], [[.own id false e 1 ((ascending zs).map (AV.int .i64))]]) else none
  | _, _ => none
def compactExt : List AV → List (List AV) → Option (AV × List (List AV))
  | [.own id false e 1 xs], [] => (intsOf xs).map fun zs => (.own id false e 1 ((Lib.compact zs).map (AV.int .i64)), [])
  | _, _ => none
theorem size_one {a : Array Value} (h : a.size = 1) : a = #[a.getD 0 undef] := by
  apply Array.ext
  · simp [h]
  · intro i h1 h2
    have : i = 0 := by omega
    subst this
    rw [Array.getD_eq_getD_getElem?, Array.getElem?_eq_getElem h1]
    simp
theorem sort_ok [Kept] {f : Nat} (hC : ∀ (blk off cap : Nat) (zs : List Int) (w : World), Holds (Value.int .i64) w blk off zs.toArray → blk < w.heap.size → zs.length < 4611686018427387904 →
      Calls P f #[.slice (some ⟨blk, off, none⟩) zs.length cap] w fun e w' => e = .returned (.tuple #[]) ∧ ∃ n os, w' = grow (putRow (Value.int .i64) (Sort.ahead w n) blk off (zs.mergeSort fun x y => decide (x ≤ y)).toArray) os)
    (hN : ∀ (p : Option Addr) (cap : Nat) (w : World), Calls P f #[.slice p 0 cap] w fun e w' => e = .returned (.tuple #[]) ∧ w' = w)
    {args : List AV} {ios fin : List (List AV)} {ret : AV} (h : sortExt args ios = some (ret, fin)) : CallOK P [.«mut»] f args ios ret fin := by
  unfold sortExt at h
  split at h
  rotate_left
  · simp at h
  rename_i id e xs
  obtain ⟨zs, hz, h⟩ := Option.bind_eq_some_iff.1 h
  split at h
  rotate_left
  · simp at h
  rename_i hlen
  obtain ⟨rfl, rfl⟩ := Prod.mk.inj (Option.some.inj h)
  have hxs := intsOf_some hz
  subst hxs
  intro w G X0 cargs hl hargs hinv _ _ hnp
  obtain ⟨cv, rfl⟩ : ∃ cv, cargs = #[cv] := ⟨_, size_one (by simpa using hl)⟩
  have h0 : RV w G (.own id false e 1 (zs.map (AV.int .i64))) cv := hargs 0 (by simp)
  obtain ⟨hρ, hk⟩ : G.ρ id = cv ∧ RowOK w G id false e 1 (zs.map (AV.int .i64)) := by
    cases h0 with
    | ro h => cases h
    | own _ _ _ _ _ hk => exact ⟨rfl, hk⟩
  have hlim : G.lim id = 0 := by have := hk.2.2.1; simpa using this
  have none_case : ∀ p cap, cv = .slice p 0 cap → zs = [] → Calls P f #[cv] w fun e0 w' => ∃ v G', e0 = .returned v ∧ Step false w w' G G' (fun b => X0 b ∨ w.heap.size ≤ b) ∧ Inv w' G' (fun b => X0 b ∨ w.heap.size ≤ b) ∧ RV w' G' (.tup []) v ∧
      (∀ i, i < ([] : List (List AV)).length → G'.μ i = G.μ i) ∧ (mutSlots 0 [Mode.«mut»] = [] → ([] : List (List AV)).length ≤ [[AV.own id false e 1 ((ascending zs).map (AV.int .i64))]].length ∧ ∀ i (h : i < [[AV.own id false e 1 ((ascending zs).map (AV.int .i64))]].length), BoxOK w' G' i [[AV.own id false e 1 ((ascending zs).map (AV.int .i64))]][i]) ∧
      (mutSlots 0 [Mode.«mut»] ≠ [] → ([] : List (List AV)) = [] ∧ [[AV.own id false e 1 ((ascending zs).map (AV.int .i64))]].length = (mutSlots 0 [Mode.«mut»]).length ∧
        ∀ i (h : i < [[AV.own id false e 1 ((ascending zs).map (AV.int .i64))]].length), ∃ x, [[AV.own id false e 1 ((ascending zs).map (AV.int .i64))]][i] = [x] ∧ RV w' G' x ((#[cv] : Array Value).getD ((mutSlots 0 [Mode.«mut»]).getD i 0) undef)) := by
    intro p cap hp hz0
    subst hz0
    rw [hp]
    refine (hN p cap w).mono ?_
    rintro e0 w' ⟨rfl, rfl⟩
    refine ⟨_, G, rfl, Step.refl _ _ _ _, hinv, .tup _ _ rfl (fun j hj => by simp at hj), fun i hi => by simp at hi, fun h => by simp [mutSlots] at h, fun _ => ⟨rfl, rfl, fun i hi => ?_⟩⟩
    have : i = 0 := by simpa using hi
    subst this
    refine ⟨_, rfl, ?_⟩
    have e1 : (#[Value.slice p 0 cap] : Array Value).getD ((mutSlots 0 [Mode.«mut»]).getD 0 0) undef = G.ρ id := by rw [hρ, hp]; rfl
    have e2 : ascending [] = [] := by unfold ascending; rw [List.mergeSort_nil]
    rw [e1, e2]
    exact .own _ _ _ _ _ hk
  rcases hk.2.2.2.cases with ⟨hnil, hv⟩ | ⟨g, off, cap, cur, Fs, hv, hat⟩
  · exact none_case none 0 (by rw [← hρ, hv]) (by simpa using hnil)
  · by_cases hz0 : zs = []
    · exact none_case (some ⟨g, off, none⟩) cap (by rw [← hρ, hv, hz0]; rfl) hz0
    · have hcv2 : cv = .slice (some ⟨g, off, none⟩) zs.length cap := by rw [← hρ, hv, List.length_map]
      rw [hcv2]
      have hgl : g < w.heap.size := (hinv.row id g hk.1 hat.own).2.1
      refine (hC g off cap zs w hat.holds hgl hlen).mono ?_
      rintro e0 w' ⟨rfl, n, os, rfl⟩
      obtain ⟨k1, k2, k3⟩ := putRow_heap (w := w) (g := g) (off := off) (n := n) (d := (ascending zs).toArray) (os := os) hat.heap
      have hal : (ascending zs).length = zs.length := by unfold ascending; rw [List.length_mergeSort]
      have hG : ({ G with ρ := G.ρ } : Gh) = G := rfl
      have hstep := Step.written (w' := grow (putRow (Value.int .i64) (Sort.ahead w n) g off (ascending zs).toArray) os) hinv hk.1 hat.own hlim k2 k3 rfl rfl rfl G.ρ
      have hinv2 := hinv.written hk.1 hat.own hlim k1 k2 k3 G.ρ (fun _ _ => rfl)
      refine ⟨_, G, rfl, hstep, hinv2, .tup _ _ rfl (fun j hj => by simp at hj), fun i hi => by simp at hi, fun h => by simp [mutSlots] at h, fun _ => ⟨rfl, rfl, fun i hi => ?_⟩⟩
      have : i = 0 := by simpa using hi
      subst this
      refine ⟨_, rfl, ?_⟩
      have e1 : (#[Value.slice (some ⟨g, off, none⟩) zs.length cap] : Array Value).getD ((mutSlots 0 [Mode.«mut»]).getD 0 0) undef = G.ρ id := by rw [hρ, hcv2]; rfl
      rw [e1]
      have hsize := hat.size
      have hcap : zs.length ≤ cap := by simpa using hat.le
      refine .own _ _ _ _ _ ⟨hk.1, hk.2.1, by rw [hlim]; exact Nat.zero_le _, ?_⟩
      rw [hv, List.length_map, ← hal]
      have := TR.row (w := grow (putRow (Value.int .i64) (Sort.ahead w n) g off (ascending zs).toArray) os) (S := G.S) (G.own id) e 1 ((ascending zs).map (AV.int .i64)) g off cap (putCells (Value.int .i64) off (ascending zs).toArray cur) (fun _ _ => False) hat.own k1
        (by simpa [hal] using hcap) hat.max (by simpa [putCells] using hsize) (fun x hx => by obtain ⟨z, _, rfl⟩ := List.mem_map.1 hx; rfl) (fun y hy => by rw [flat_ints] at hy; obtain ⟨z, _, rfl⟩ := List.mem_map.1 hy; rfl)
        (fun _ _ h => h.elim) (fun _ _ _ h => h.elim) (fun j hj => by
          have hj' : j < (ascending zs).length := by rw [flat_ints] at hj; simpa using hj
          have e2 : (flat ((ascending zs).map (AV.int .i64)))[j] = AV.int .i64 (ascending zs)[j] := by simp only [flat_ints, List.getElem_map]
          rw [e2, putCells_get j (by simpa using hj') (by simp only [List.size_toArray, hal]; omega)]
          exact .ro _ (.int _ _ _))
      rwa [List.length_map] at this
theorem compact_len (zs : List Int) : (Lib.compact zs).length ≤ zs.length := by
  unfold Lib.compact Lib.compactUpTo
  rw [List.length_map]
  exact Nat.le_trans (List.length_filter_le _ _) (by simp)
theorem compact_ok [Kept] {f : Nat} (hC : ∀ (blk off cap : Nat) (zs : List Int) (w : World), Holds (Value.int .i64) w blk off zs.toArray → zs.length ≤ 9223372036854775807 → zs.length ≤ cap →
      Calls P f #[.slice (some ⟨blk, off, none⟩) zs.length cap] w fun e w' => e = .returned (.slice (some ⟨blk, off, none⟩) (Lib.compact zs).length cap) ∧ ∃ q, w' = putRow (Value.int .i64) (Sort.ahead w q) blk off (Lib.compact zs ++ List.replicate (zs.length - (Lib.compact zs).length) 0).toArray)
    (hN : ∀ (a : Option Addr) (cap : Nat) (w : World), Calls P f #[.slice a 0 cap] w fun e w' => e = .returned (.slice a 0 cap) ∧ w' = w)
    {args : List AV} {ios fin : List (List AV)} {ret : AV} (h : compactExt args ios = some (ret, fin)) : CallOK P [.give] f args ios ret fin := by
  unfold compactExt at h
  split at h
  rotate_left
  · simp at h
  rename_i id e xs
  obtain ⟨zs, hz, h⟩ := Option.map_eq_some_iff.1 h
  obtain ⟨rfl, rfl⟩ := Prod.mk.inj h
  have hxs := intsOf_some hz
  subst hxs
  intro w G X0 cargs hl hargs hinv _ _ hnp
  obtain ⟨cv, rfl⟩ : ∃ cv, cargs = #[cv] := ⟨_, size_one (by simpa using hl)⟩
  have h0 : RV w G (.own id false e 1 (zs.map (AV.int .i64))) cv := hargs 0 (by simp)
  obtain ⟨hρ, hk⟩ : G.ρ id = cv ∧ RowOK w G id false e 1 (zs.map (AV.int .i64)) := by
    cases h0 with
    | ro h => cases h
    | own _ _ _ _ _ hk => exact ⟨rfl, hk⟩
  have hlim : G.lim id = 0 := by have := hk.2.2.1; simpa using this
  have hlast : ∀ (w' : World) (G' : Gh), mutSlots 0 [Mode.give] = [] → ([] : List (List AV)).length ≤ ([] : List (List AV)).length ∧ ∀ i (h : i < ([] : List (List AV)).length), BoxOK w' G' i ([] : List (List AV))[i] := fun _ _ _ => ⟨Nat.le_refl _, fun i hi => by simp at hi⟩
  have none_case : ∀ p cap, cv = .slice p 0 cap → zs = [] → Calls P f #[cv] w fun e0 w' => ∃ v G', e0 = .returned v ∧ Step false w w' G G' (fun b => X0 b ∨ w.heap.size ≤ b) ∧ Inv w' G' (fun b => X0 b ∨ w.heap.size ≤ b) ∧ RV w' G' (.own id false e 1 ((Lib.compact zs).map (AV.int .i64))) v ∧
      (∀ i, i < ([] : List (List AV)).length → G'.μ i = G.μ i) ∧ (mutSlots 0 [Mode.give] = [] → ([] : List (List AV)).length ≤ ([] : List (List AV)).length ∧ ∀ i (h : i < ([] : List (List AV)).length), BoxOK w' G' i ([] : List (List AV))[i]) ∧
      (mutSlots 0 [Mode.give] ≠ [] → ([] : List (List AV)) = [] ∧ ([] : List (List AV)).length = (mutSlots 0 [Mode.give]).length ∧ ∀ i (h : i < ([] : List (List AV)).length), ∃ x, ([] : List (List AV))[i] = [x] ∧ RV w' G' x ((#[cv] : Array Value).getD ((mutSlots 0 [Mode.give]).getD i 0) undef)) := by
    intro p cap hp hz0
    subst hz0
    rw [hp]
    refine (hN p cap w).mono ?_
    rintro e0 w' ⟨rfl, rfl⟩
    have hr : RV w' G (.own id false e 1 ((Lib.compact ([] : List Int)).map (AV.int .i64))) (.slice p 0 cap) := by
      rw [← hp, ← hρ]
      exact .own _ _ _ _ _ hk
    exact ⟨_, G, rfl, Step.refl _ _ _ _, hinv, hr, fun i hi => by simp at hi, hlast _ _, fun h => by simp [mutSlots] at h⟩
  rcases hk.2.2.2.cases with ⟨hnil, hv⟩ | ⟨g, off, cap, cur, Fs, hv, hat⟩
  · exact none_case none 0 (by rw [← hρ, hv]) (by simpa using hnil)
  · by_cases hz0 : zs = []
    · exact none_case (some ⟨g, off, none⟩) cap (by rw [← hρ, hv, hz0]; rfl) hz0
    · have hcv2 : cv = .slice (some ⟨g, off, none⟩) zs.length cap := by rw [← hρ, hv, List.length_map]
      rw [hcv2]
      have hcap : zs.length ≤ cap := by simpa using hat.le
      have hmax : zs.length ≤ 9223372036854775807 := Nat.le_trans hcap hat.max
      refine (hC g off cap zs w hat.holds hmax hcap).mono ?_
      rintro e0 w' ⟨rfl, q, rfl⟩
      generalize hd : Lib.compact zs ++ List.replicate (zs.length - (Lib.compact zs).length) 0 = d
      have hcl := compact_len zs
      have hdl : d.length = zs.length := by rw [← hd]; simp; omega
      obtain ⟨k1, k2, k3⟩ := putRow_heap (w := w) (g := g) (off := off) (n := q) (d := d.toArray) (os := #[]) hat.heap
      rw [grow_empty'] at k1 k3
      simp only [grow_empty'] at k2
      let ρ' : Nat → Value := fun i => if i = id then .slice (some ⟨g, off, none⟩) (Lib.compact zs).length cap else G.ρ i
      have hρ' : ρ' id = .slice (some ⟨g, off, none⟩) (Lib.compact zs).length cap := if_pos rfl
      have hstep := Step.written (w' := putRow (Value.int .i64) (Sort.ahead w q) g off d.toArray) hinv hk.1 hat.own hlim k2 k3 rfl rfl rfl ρ'
      have hinv2 := hinv.written hk.1 hat.own hlim k1 k2 k3 ρ' (fun i hi => if_neg hi)
      have hsize := hat.size
      have hrow : RowOK (putRow (Value.int .i64) (Sort.ahead w q) g off d.toArray) { G with ρ := ρ' } id false e 1 ((Lib.compact zs).map (AV.int .i64)) := by
        refine ⟨hk.1, hk.2.1, by show G.lim id ≤ _; rw [hlim]; exact Nat.zero_le _, ?_⟩
        show TR _ G.S (G.own id) _ (ρ' id)
        rw [hρ']
        have := TR.row (w := putRow (Value.int .i64) (Sort.ahead w q) g off d.toArray) (S := G.S) (G.own id) e 1 ((Lib.compact zs).map (AV.int .i64)) g off cap (putCells (Value.int .i64) off d.toArray cur) (fun _ _ => False) hat.own k1
          (by simp only [List.length_map]; omega) hat.max (by simpa [putCells] using hsize) (fun x hx => by obtain ⟨z, _, rfl⟩ := List.mem_map.1 hx; rfl) (fun y hy => by rw [flat_ints] at hy; obtain ⟨z, _, rfl⟩ := List.mem_map.1 hy; rfl)
          (fun _ _ h => h.elim) (fun _ _ _ h => h.elim) (fun j hj => by
            have hj' : j < (Lib.compact zs).length := by rw [flat_ints] at hj; simpa using hj
            have e2 : (flat ((Lib.compact zs).map (AV.int .i64)))[j] = AV.int .i64 (Lib.compact zs)[j] := by simp only [flat_ints, List.getElem_map]
            have hjd : j < d.length := by omega
            have e3 : d[j] = (Lib.compact zs)[j] := by simp only [← hd]; rw [List.getElem_append_left hj']
            rw [e2, putCells_get j (by simpa using hjd) (by simp only [List.size_toArray, hdl]; omega), List.getElem_toArray, e3]
            exact .ro _ (.int _ _ _))
        rwa [List.length_map] at this
      have hr : RV (putRow (Value.int .i64) (Sort.ahead w q) g off d.toArray) { G with ρ := ρ' } (.own id false e 1 ((Lib.compact zs).map (AV.int .i64))) (.slice (some ⟨g, off, none⟩) (Lib.compact zs).length cap) := by
        have := RV.own (G := { G with ρ := ρ' }) _ _ _ _ _ hrow
        rwa [show ({ G with ρ := ρ' } : Gh).ρ id = .slice (some ⟨g, off, none⟩) (Lib.compact zs).length cap from hρ'] at this
      exact ⟨_, { G with ρ := ρ' }, rfl, hstep, hinv2, hr, fun i hi => by simp at hi, hlast _ _, fun h => by simp [mutSlots] at h⟩
end
end Go.Proofs.Ytggkeechdakccaa.Flat
/-
slices.Insert of one fact into a row of facts: not entered; what a call comes to.
-/
namespace Go.Proofs.Ytggkeechdakccaa.Flat
def isInt : AV → Bool
  | .int _ _ => true
  | _ => false
def valI : AV → Value
  | .int k n => .int k n
  | _ => undef
def six (x : AV) : Bool := decide (x.cells.length = 6) && x.cells.all isInt
def insExt (args : List AV) (ios : List (List AV)) : Option (AV × List (List AV)) :=
  match args, ios with
  | [.own id false 34 6 xs, .int .i64 i, .sl true [x]], [] =>
    if 0 ≤ i ∧ i ≤ (xs.length : Int) ∧ six x = true ∧ xs.all six = true ∧ xs.length ≤ 1000000 then
      some (.own id false 34 6 (xs.take i.toNat ++ x :: xs.drop i.toNat), [])
    else none
  | _, _ => none
section
variable {P : Program} {w w' : World} {G : Gh} {X : Nat → Prop}
theorem setCells_heap (g : Nat) (t : TypeId) : ∀ (vs : List Value) (o : Nat) (cur : Array Value) (w : World), w.heap[g]? = some (.cells cur t (0, 0)) → o + vs.length ≤ cur.size →
    ∃ cur', (w.setCells g o vs).heap[g]? = some (.cells cur' t (0, 0)) ∧ cur'.size = cur.size ∧ (∀ j, cur'.getD j undef = if o ≤ j ∧ j < o + vs.length then vs.getD (j - o) undef else cur.getD j undef) ∧
      (∀ b, b ≠ g → (w.setCells g o vs).heap[b]? = w.heap[b]?) ∧ (w.setCells g o vs).heap.size = w.heap.size ∧ (w.setCells g o vs).os = w.os ∧ (w.setCells g o vs).tape = w.tape ∧ (w.setCells g o vs).output = w.output
  | [], o, cur, w, h, _ => ⟨cur, h, rfl, fun j => by rw [if_neg (by simp)], fun _ _ => rfl, rfl, rfl, rfl, rfl⟩
  | v :: r, o, cur, w, h, hs => by
    simp only [List.length_cons] at hs
    have e1 : w.setCell ⟨g, o, none⟩ v = w.setRow g (cur.setIfInBounds o v) := setCell_eq_setRow w g o cur t (0, 0) v h
    have h1 := setRow_heap w g cur (cur.setIfInBounds o v) t (0, 0) h
    obtain ⟨cur', a1, a2, a3, a4, a5, a6, a7, a8⟩ := setCells_heap g t r (o + 1) (cur.setIfInBounds o v) (w.setRow g (cur.setIfInBounds o v)) h1 (by simp; omega)
    have e2 : w.setCells g o (v :: r) = (w.setRow g (cur.setIfInBounds o v)).setCells g (o + 1) r := by rw [World.setCells, e1]
    rw [e2]
    refine ⟨cur', a1, a2.trans (by simp), fun j => ?_, fun b hb => (a4 b hb).trans ?_, a5.trans ?_, a6, a7, a8⟩
    · rw [a3 j]
      by_cases hj : j = o
      · subst hj
        rw [if_neg (by omega), if_pos (by simp)]
        rw [Array.getD_eq_getD_getElem?, Array.getElem?_setIfInBounds, if_pos rfl, if_pos (by omega)]
        simp
      · by_cases hj2 : o + 1 ≤ j ∧ j < o + 1 + r.length
        · rw [if_pos hj2, if_pos (by simp only [List.length_cons]; omega)]
          have : j - o = (j - (o + 1)) + 1 := by omega
          rw [this]
          simp
        · rw [if_neg hj2, if_neg (by simp only [List.length_cons]; omega)]
          rw [Array.getD_eq_getD_getElem?, Array.getElem?_setIfInBounds, if_neg (fun e => hj e.symm), ← Array.getD_eq_getD_getElem?]
    · simp only [World.setRow, Array.getElem?_modify]
      rw [if_neg (fun e => hb e.symm)]
    · simp [World.setRow]
theorem row_moved [Kept] (hi : Inv w G X) {id q off cap : Nat} {xs ys : List AV} {cur' : Array Value} (hk : RowOK w G id false 34 6 xs) (hq : w'.heap[q]? = some (.cells cur' 34 (0, 0)))
    (hqo : ∀ b, b < w.heap.size → b ≠ q → w'.heap[b]? = w.heap[b]?) (hqn : G.own id q ∨ w.heap.size ≤ q) (hX : X q) (hnb : G.nb ≤ q) (hsz : w.heap.size ≤ w'.heap.size)
    (hos : w'.os = w.os) (htape : w'.tape = w.tape) (hout : w'.output = w.output)
    (hn : ys.length ≤ cap) (hm : cap ≤ maxLen) (hs : off + cap * 6 ≤ cur'.size) (h6 : ys.all six = true) (hv : ∀ j (h : j < (flat ys).length), cur'.getD (off + j) undef = valI (flat ys)[j]) :
    ∃ G', Step false w w' G G' X ∧ Inv w' G' X ∧ RV w' G' (.own id false 34 6 ys) (.slice (some ⟨q, off, none⟩) ys.length cap) ∧ G'.μ = G.μ := by
  have hal := hk.1
  have hlim : G.lim id = 0 := by have := hk.2.2.1; simpa using this
  have hqlt : q < w'.heap.size := heap_lt hq
  let ρ' : Nat → Value := fun i => if i = id then .slice (some ⟨q, off, none⟩) ys.length cap else G.ρ i
  have hρ1 : ρ' id = .slice (some ⟨q, off, none⟩) ys.length cap := if_pos rfl
  have hρ2 : ∀ i, i ≠ id → ρ' i = G.ρ i := fun i hi => if_neg hi
  let G2 : Gh := { G with ρ := ρ', own := fun i b => if i = id then b = q else G.own i b }
  have o1 : ∀ b, G2.own id b ↔ b = q := fun b => by show (if id = id then _ else _) ↔ _; rw [if_pos rfl]
  have o2 : ∀ i b, i ≠ id → (G2.own i b ↔ G.own i b) := fun i b h => by show (if i = id then _ else _) ↔ _; rw [if_neg h]
  have hoth : ∀ i b, G.al i → i ≠ id → G.own i b → b ≠ q := fun i b h1 h2 h3 e => by
    subst e
    rcases hqn with h4 | h4
    · exact hi.rows i id b h1 hal h2 h3 h4
    · have := (hi.row i b h1 h3).2.1; omega
  have hbox : ∀ i b, G.μ i = some b → b ≠ q := fun i b h1 e => by
    subst e
    rcases hqn with h4 | h4
    · exact hi.rowBox id i b hal h4 h1
    · have := (hi.box i b h1).2.1; omega
  have hS : ∀ fl b o, G.S fl b o → b ≠ q := fun fl b o h1 e => by
    subst e
    rcases hqn with h4 | h4
    · have := (hi.sRow fl b o id h1 hal h4).2; omega
    · have := hi.lt fl b o h1; omega
  have hinv : Inv w' G2 X := {
    nb := Nat.le_trans hi.nb hsz
    kept := hi.keeps fun b hb hx => hqo b hb fun e => hx (by rw [e]; exact hX)
    row := fun i b h1 h2 => by
      by_cases he : i = id
      · rw [he] at h2
        rw [(o1 b).1 h2]
        exact ⟨hX, hqlt, hnb⟩
      · have := hi.row i b h1 ((o2 i b he).1 h2)
        exact ⟨this.1, Nat.lt_of_lt_of_le this.2.1 hsz, this.2.2⟩
    plain := fun i b h1 h2 => by
      by_cases he : i = id
      · rw [he] at h2
        rw [(o1 b).1 h2]
        exact ⟨_, _, hq⟩
      · have h3 := (o2 i b he).1 h2
        obtain ⟨c, e0, h4⟩ := hi.plain i b h1 h3
        exact ⟨c, e0, (hqo b (hi.row i b h1 h3).2.1 (hoth i b h1 he h3)).trans h4⟩
    box := fun i b h1 => by have := hi.box i b h1; exact ⟨this.1, Nat.lt_of_lt_of_le this.2.1 hsz, this.2.2⟩
    rows := fun i j b h1 h2 hij h3 h4 => by
      by_cases he : i = id
      · have hj : j ≠ id := fun e => hij (he.trans e.symm)
        rw [he] at h3
        exact hoth j b h2 hj ((o2 j b hj).1 h4) ((o1 b).1 h3)
      · by_cases hj : j = id
        · rw [hj] at h4
          exact hoth i b h1 he ((o2 i b he).1 h3) ((o1 b).1 h4)
        · exact hi.rows i j b h1 h2 hij ((o2 i b he).1 h3) ((o2 j b hj).1 h4)
    boxes := hi.boxes
    rowBox := fun i j b h1 h2 h3 => by
      by_cases he : i = id
      · rw [he] at h2
        exact hbox j b h3 ((o1 b).1 h2)
      · exact hi.rowBox i j b h1 ((o2 i b he).1 h2) h3
    lt := fun fl b o hs => Nat.lt_of_lt_of_le (hi.lt fl b o hs) hsz
    old := hi.old
    new := fun b o hs => by
      obtain ⟨h1, c, e0, h2⟩ := hi.new b o hs
      exact ⟨h1, c, e0, (hqo b (hi.lt true b o hs) (hS true b o hs)).trans h2⟩
    sBox := hi.sBox
    sRow := fun fl b o i hs h1 h2 => by
      by_cases he : i = id
      · rw [he] at h2
        exact absurd ((o1 b).1 h2) (hS fl b o hs)
      · show (ρ' i).ownBlock = some b ∧ o < G.lim i
        rw [hρ2 i he]
        exact hi.sRow fl b o i hs h1 ((o2 i b he).1 h2) }
  have h6' : ∀ x ∈ ys, x.cells.length = 6 ∧ x.cells.all isInt = true := fun x hx => by
    have := List.all_eq_true.1 h6 x hx
    simpa [six] using this
  have hint : ∀ y ∈ flat ys, isInt y = true := fun y hy => by
    obtain ⟨x, hx, hyx⟩ := List.mem_flatMap.1 hy
    exact List.all_eq_true.1 (h6' x hx).2 y hyx
  have hrow : RowOK w' G2 id false 34 6 ys := by
    refine ⟨hal, hk.2.1, by show G.lim id ≤ _; rw [hlim]; exact Nat.zero_le _, ?_⟩
    show TR w' G.S (G2.own id) _ (ρ' id)
    rw [hρ1]
    refine .row _ 34 6 ys q off cap cur' (fun _ _ => False) ((o1 q).2 rfl) hq hn hm hs (fun x hx => (h6' x hx).1) (fun y hy => ?_) (fun _ _ h => h.elim) (fun _ _ _ h => h.elim) (fun j hj => ?_)
    · have := hint y hy
      cases y <;> simp [isInt] at this
      rfl
    · rw [hv j hj]
      have := hint _ (List.getElem_mem hj)
      generalize (flat ys)[j] = y at *
      cases y <;> simp [isInt] at this
      exact .ro _ (.int _ _ _)
  refine ⟨G2, ⟨hos, htape, hout, hsz, fun b hb hx => hqo b hb fun e => hx (by rw [e]; exact hX), rfl, fun _ _ _ _ hs => hs, fun fl b o _ hs => World.cell?_of_block (hqo b (hi.lt fl b o hs) (hS fl b o hs)), fun _ _ _ hs => .inl hs, rfl, fun _ _ _ h => h⟩, hinv, ?_, rfl⟩
  have := RV.own (G := G2) _ _ _ _ _ hrow
  rwa [show G2.ρ id = .slice (some ⟨q, off, none⟩) ys.length cap from hρ1] at this
end
end Go.Proofs.Ytggkeechdakccaa.Flat
