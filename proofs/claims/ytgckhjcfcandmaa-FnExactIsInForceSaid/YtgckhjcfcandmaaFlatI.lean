/-
All operations that change nothing, in one: what evFree tells is what the machine does.
-/
import Derived.Test.YtgckhjcfcandmaaFlatH
import Derived.WalkLawsBesides
set_option linter.unusedVariables false
set_option linter.unusedSimpArgs false
namespace Go.Proofs.Ytgckhjcfcandmaa.Flat
variable {w : World} {G : Gh}

def isCallV : Op → Bool
  | .call { callee := .value _, .. } => true
  | _ => false

theorem optAV_rel {val : Operand → AV} {ρ : Operand → Value} (hv : ∀ x, RV w G (val x) (ρ x)) (lo : Option Operand) :
    match optAV val lo, lo.map ρ with | none, none => True | some x, some v => RV w G x v | _, _ => False := by
  cases lo with
  | none => trivial
  | some x => exact hv x

theorem evPure_ok {E : Env} {Φ : Phi} {bx : Nat → Option (List AV)} {nid : Nat} {val : Operand → AV} {ρ : Operand → Value} {o : Oper} {v : AV} {ids : List Nat}
    (hs : Sees bx val ρ w G) (h : evFree E Φ bx nid val o.op = some (v, ids)) (hc : isCallV o.op = false) :
    ids = [] ∧ ∃ cv, (execOp ρ o).run E.P w = .ok (.value cv) w ∧ RV w G v cv := by
  have map1 : ∀ {q : Option AV}, q.map (fun x => (x, ([] : List Nat))) = some (v, ids) → q = some v ∧ ids = [] := by
    intro q hq
    obtain ⟨a, ha, hb⟩ := Option.map_eq_some_iff.1 hq
    simp only [Prod.mk.injEq] at hb
    exact ⟨by rw [ha, hb.1], hb.2.symm⟩
  have fin : ∀ {s : Sem Value}, execOp ρ o = (do let x ← s; pure (Next.value x)) → ids = [] → (∃ cv, s.run E.P w = .ok cv w ∧ RV w G v cv) → ids = [] ∧ ∃ cv, (execOp ρ o).run E.P w = .ok (.value cv) w ∧ RV w G v cv := by
    intro s he hi hh
    obtain ⟨cv, h1, h2⟩ := hh
    refine ⟨hi, cv, ?_, h2⟩
    rw [he, Sem.run_bind, h1, Result.andThen_ok]
    rfl
  obtain ⟨dst, op, ty, pos, after, guard⟩ := o
  simp only at h hc
  cases op with
  | move x =>
    simp only [evFree, Option.some.injEq, Prod.mk.injEq] at h
    obtain ⟨rfl, rfl⟩ := h
    exact ⟨rfl, _, rfl, hs.val x⟩
  | assign x =>
    simp only [evFree, Option.some.injEq, Prod.mk.injEq] at h
    obtain ⟨rfl, rfl⟩ := h
    exact ⟨rfl, _, rfl, hs.val x⟩
  | pick c a b =>
    simp only [evFree] at h
    have hcv := hs.val c
    cases hq : val c with
    | bool t =>
      rw [hq] at h hcv
      simp only [Option.some.injEq, Prod.mk.injEq] at h
      obtain ⟨rfl, rfl⟩ := h
      have e := hcv.bool_inv
      refine ⟨rfl, if t then ρ a else ρ b, ?_, ?_⟩
      · simp [execOp, e, asBool]
      · cases t
        · exact hs.val b
        · exact hs.val a
    | _ => simp [hq] at h
  | load t p =>
    simp only [evFree] at h
    obtain ⟨hm, hi'⟩ := map1 h
    clear h
    subst hi'
    have h := hm
    exact fin rfl rfl (evLoad_ok hs.box (hs.val p) h)
  | binOp op t x y t' =>
    simp only [evFree] at h
    have hx := hs.val x
    have hy := hs.val y
    split at h
    · rename_i a b ha hb
      rw [ha] at hx
      rw [hb] at hy
      obtain ⟨r, hr, h⟩ := Option.bind_eq_some_iff.1 h
      obtain ⟨xs, hxs, hl, hxr⟩ := hx.agg_inv
      obtain ⟨ys, hys, hl', hyr⟩ := hy.agg_inv
      obtain ⟨hg, he⟩ := evEq_ok hr hl hl' hxr hyr
      have hgd : ∀ op, (eqGuard op t x y (ρ x) (ρ y)).run E.P w = .ok () w := by
        intro op; rw [hxs, hys]; exact run_eqGuard_agg w op t x y xs ys hg
      split at h
      · simp only [Option.some.injEq, Prod.mk.injEq] at h
        obtain ⟨rfl, rfl⟩ := h
        refine fin rfl rfl ⟨.bool r, ?_, rvBool _⟩
        simp only [Sem.run_bind, hgd, Result.andThen_ok]
        rw [hxs, hys, run_eql_struct, he]
        rfl
      · simp only [Option.some.injEq, Prod.mk.injEq] at h
        obtain ⟨rfl, rfl⟩ := h
        refine fin rfl rfl ⟨.bool (!r), ?_, rvBool _⟩
        simp only [Sem.run_bind, hgd, Result.andThen_ok]
        rw [hxs, hys, run_neq_struct, he]
        rfl
      · simp at h
    · obtain ⟨hm, hi'⟩ := map1 h
      clear h
      subst hi'
      exact fin rfl rfl (evBin_ok hx hy hm x y)
  | unOp op t x =>
    simp only [evFree] at h
    obtain ⟨hm, hi'⟩ := map1 h
    clear h
    subst hi'
    have h := hm
    exact fin rfl rfl (evUn_ok (hs.val x) h)
  | convert s d x =>
    simp only [evFree] at h
    obtain ⟨hm, hi'⟩ := map1 h
    clear h
    subst hi'
    have h := hm
    exact fin rfl rfl (evConvert_ok (hs.val x) h)
  | fieldAddr t p f =>
    simp only [evFree] at h
    obtain ⟨hm, hi'⟩ := map1 h
    clear h
    subst hi'
    have h := hm
    exact fin rfl rfl (evFieldAddr_ok (hs.val p) h)
  | field t x f =>
    simp only [evFree] at h
    obtain ⟨hm, hi'⟩ := map1 h
    clear h
    subst hi'
    have h := hm
    exact fin rfl rfl (evField_ok (hs.val x) h)
  | indexAddr t x i =>
    simp only [evFree] at h
    obtain ⟨hm, hi'⟩ := map1 h
    clear h
    subst hi'
    have h := hm
    exact fin rfl rfl (evIndexAddr_ok (hs.val x) (hs.val i) h)
  | index t x i =>
    simp only [evFree] at h
    obtain ⟨hm, hi'⟩ := map1 h
    clear h
    subst hi'
    have h := hm
    exact fin rfl rfl (evIndex_ok (hs.val x) (hs.val i) h)
  | extract x i =>
    simp only [evFree] at h
    have hx := hs.val x
    cases hq : val x with
    | tup vs =>
      rw [hq] at h hx
      simp only at h
      obtain ⟨hm, hi'⟩ := map1 h
      clear h
      subst hi'
      have h := hm
      obtain ⟨xs, hxs, hl, hxr⟩ := hx.tup_inv
      have hlt := (List.getElem?_eq_some_iff.1 h).1
      have := hxr i hlt
      rw [(List.getElem?_eq_some_iff.1 h).2] at this
      refine fin rfl rfl ⟨_, ?_, this⟩
      rw [hxs]
      have hg := getD_some (xs := xs) (i := i) (by omega)
      simp only [Instr.extract, hg]
      rfl
    | _ => simp [hq] at h
  | build t ps =>
    simp only [evFree] at h
    obtain ⟨hm, hi'⟩ := map1 h
    clear h
    subst hi'
    have h := hm
    refine fin (s := Instr.build t (ps.map fun p => (p.1, ρ p.2))) rfl rfl (evBuild_ok (by simp) ?_ h)
    intro k i x i' v' h1 h2
    simp only [List.getElem?_map, Option.map_eq_some_iff, Prod.mk.injEq, Array.getElem?_toList] at h1
    simp only [Array.getElem?_map, Option.map_eq_some_iff, Prod.mk.injEq] at h2
    obtain ⟨p, hp, rfl, rfl⟩ := h1
    obtain ⟨p', hp', rfl, rfl⟩ := h2
    rw [hp] at hp'
    obtain rfl := Option.some.inj hp'
    exact ⟨rfl, hs.val _⟩
  | nilCheck x =>
    simp only [evFree] at h
    have hx := hs.val x
    have key : ∀ ad : Addr, ρ x = .pointer (some ad) → (execOp ρ { dst := dst, op := .nilCheck x, type := ty, pos := pos, after := after, guard := guard }).run E.P w = .ok (.value (ρ x)) w := by
      intro ad hp
      simp only [execOp, hp]
      rfl
    cases hq : val x with
    | ptr id off =>
      rw [hq] at h hx
      simp only [Option.some.injEq, Prod.mk.injEq] at h
      obtain ⟨rfl, rfl⟩ := h
      refine ⟨rfl, _, ?_, hx⟩
      obtain ⟨ad, hp⟩ : ∃ ad, ρ x = .pointer (some ad) := by
        generalize ρ x = v at hx
        cases hx with
        | ro hr => cases hr
        | ptr => exact ⟨_, rfl⟩
      exact key ad hp
    | cptr cs =>
      rw [hq] at h hx
      simp only [Option.some.injEq, Prod.mk.injEq] at h
      obtain ⟨rfl, rfl⟩ := h
      refine ⟨rfl, _, ?_, hx⟩
      obtain ⟨ad, hp⟩ : ∃ ad, ρ x = .pointer (some ad) := by
        generalize ρ x = v at hx
        cases hx with
        | ro hr => cases hr; exact ⟨_, rfl⟩
      exact key ad hp
    | eptr id fz e sz xs i off =>
      rw [hq] at h hx
      simp only [Option.some.injEq, Prod.mk.injEq] at h
      obtain ⟨rfl, rfl⟩ := h
      refine ⟨rfl, _, ?_, hx⟩
      obtain ⟨ad, hp⟩ : ∃ ad, ρ x = .pointer (some ad) := by
        generalize ρ x = v at hx
        cases hx with
        | ro hr => cases hr
        | eptr => exact ⟨_, rfl⟩
      exact key ad hp
    | _ => simp [hq] at h
  | slice t x lo hi mx =>
    cases mx with
    | some m => simp [evFree] at h
    | none =>
      simp only [evFree] at h
      have hx := hs.val x
      have hlo := optAV_rel hs.val lo
      have hhi := optAV_rel hs.val hi
      cases hq : val x with
      | str s =>
        rw [hq] at h hx
        simp only at h
        split at h
        · rename_i ht
          obtain ⟨hm, hi'⟩ := map1 h
          clear h
          subst hi'
          have h := hm
          refine fin rfl rfl ?_
          have e := hx.str_inv
          rw [e]
          exact evCutStr_ok ht hlo hhi h
        · simp at h
      | sl fl xs =>
        rw [hq] at h hx
        simp only at h
        split at h
        · rename_i ht
          obtain ⟨ti, hti, h⟩ := Option.bind_eq_some_iff.1 h
          obtain ⟨te, hte, h⟩ := Option.bind_eq_some_iff.1 h
          obtain ⟨hm, hi'⟩ := map1 h
          clear h
          subst hi'
          have h := hm
          exact fin rfl rfl (evCutRow_ok ht hti hte hx hlo hhi h)
        · simp at h
      | _ => simp [hq] at h
  | makeFunc f first cs =>
    cases f with
    | func f =>
      simp only [evFree] at h
      split at h
      · rename_i hf
        simp only [Option.some.injEq, Prod.mk.injEq] at h
        obtain ⟨rfl, rfl⟩ := h
        obtain rfl : first = #[] := by simpa using hf
        refine fin (s := Instr.makeFunc (.func f) (Array.map ρ #[]) (cs.map ρ)) rfl rfl ⟨.func (.func f) #[] (cs.map ρ), by simp [Instr.makeFunc], .clo _ _ _ (by simp) (fun j hj => ?_)⟩
        have hj' : j < cs.size := by simpa using hj
        have e : (cs.map ρ).getD j undef = ρ cs[j] := by simp [Array.getD_eq_getD_getElem?, hj']
        rw [e]
        simp only [List.getElem_map, Array.getElem_toList]
        exact hs.val _
      · simp at h
    | _ => simp [evFree] at h
  | call c =>
    obtain ⟨callee, args, argTypes⟩ := c
    cases callee with
    | value f => simp [isCallV] at hc
    | invoke x s => simp [evFree] at h
    | builtin b =>
      cases b with
      | len =>
        simp only [evFree] at h
        split at h
        · rename_i x t ha ht
          obtain ⟨hm, hi'⟩ := map1 h
          clear h
          subst hi'
          have h := hm
          obtain ⟨cv, h1, h2⟩ := evLen_ok (hs.val x) h argTypes ht ty
          refine ⟨rfl, cv, ?_, h2⟩
          obtain rfl : args = #[x] := by cases args; simp_all
          have hb : ∀ d p (af : Array Edge) g, execOp ρ { dst := d, op := .call { callee := .builtin .len, args := #[x], argTypes := argTypes }, type := ty, pos := p, after := af, guard := g } =
            (do let v ← Builtin.len_ argTypes ty (#[x].map ρ); pure (Next.value v)) := fun _ _ _ _ => rfl
          rw [hb, Sem.run_bind]
          simp only [List.map_toArray, List.map_cons, List.map_nil]
          simp only [h1, Result.andThen_ok]
          rfl
        · simp at h
      | min =>
        simp only [evFree] at h
        split at h
        · rename_i k a k' b ha
          split at h
          · rename_i hk
            simp only [Option.some.injEq, Prod.mk.injEq] at h
            obtain ⟨rfl, rfl⟩ := h
            obtain ⟨l⟩ := args
            rcases l with _ | ⟨x, _ | ⟨y, _ | ⟨z, r⟩⟩⟩ <;> simp only [List.map_cons, List.map_nil, List.cons.injEq, and_true, reduceCtorEq, and_false] at ha
            have e1 := hs.val x
            have e2 := hs.val y
            rw [ha.1] at e1
            rw [ha.2] at e2
            refine ⟨rfl, _, ?_, rvInt _ _⟩
            have hb : ∀ d p (af : Array Edge) g, execOp ρ { dst := d, op := .call { callee := .builtin .min, args := #[x, y], argTypes := argTypes }, type := ty, pos := p, after := af, guard := g } =
              (do let v ← Builtin.min_ argTypes ty (#[x, y].map ρ); pure (Next.value v)) := fun _ _ _ _ => rfl
            rw [hb]
            simp only [List.map_toArray, List.map_cons, List.map_nil]
            rw [e1.int_inv, e2.int_inv, Sem.run_bind, run_min_int2, Result.andThen_ok]
            rfl
          · simp at h
        · simp at h
      | max =>
        simp only [evFree] at h
        split at h
        · rename_i k a k' b ha
          split at h
          · rename_i hk
            simp only [Option.some.injEq, Prod.mk.injEq] at h
            obtain ⟨rfl, rfl⟩ := h
            obtain ⟨l⟩ := args
            rcases l with _ | ⟨x, _ | ⟨y, _ | ⟨z, r⟩⟩⟩ <;> simp only [List.map_cons, List.map_nil, List.cons.injEq, and_true, reduceCtorEq, and_false] at ha
            have e1 := hs.val x
            have e2 := hs.val y
            rw [ha.1] at e1
            rw [ha.2] at e2
            refine ⟨rfl, _, ?_, rvInt _ _⟩
            have hb : ∀ d p (af : Array Edge) g, execOp ρ { dst := d, op := .call { callee := .builtin .max, args := #[x, y], argTypes := argTypes }, type := ty, pos := p, after := af, guard := g } =
              (do let v ← Builtin.max_ argTypes ty (#[x, y].map ρ); pure (Next.value v)) := fun _ _ _ _ => rfl
            rw [hb]
            simp only [List.map_toArray, List.map_cons, List.map_nil]
            rw [e1.int_inv, e2.int_inv, Sem.run_bind, run_max_int2, Result.andThen_ok]
            rfl
          · simp at h
        · simp at h
      | _ => simp [evFree] at h
  | _ => simp [evFree] at h

end Go.Proofs.Ytgckhjcfcandmaa.Flat
