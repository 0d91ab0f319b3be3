/-
The operations that change nothing, second part.
-/
import Derived.Test.YtgckhjcfcandmaaFlatE
set_option linter.unusedVariables false
set_option linter.unusedSimpArgs false
namespace Go.Proofs.Ytgckhjcfcandmaa.Flat
variable {P : Program} {w : World} {G : Gh}

/-! ### '==' of structs -/
theorem eqf_step {d i : Nat} {xs ys : Array Value} {f : Field} {fs : List Field} {a b : Value} {p q : Bool} (hn : f.name ≠ "_") (ho : f.offset = i) (hagg : (isAgg f.type).run P w = .ok false w)
    (hx : xs[i]? = some a) (hy : ys[i]? = some b) (hp : (Op.equalIn d f.type a b).run P w = .ok p w) (hq : (Op.eqFields d xs ys fs).run P w = .ok q w) :
    (Op.eqFields d xs ys (f :: fs)).run P w = .ok (p && q) w := by
  have hpx : (part f.type xs f.offset).run P w = .ok a w := by
    rw [ho]
    simp only [part, Sem.run_bind, hagg, Result.andThen_ok, if_false, hx, Bool.false_eq_true]
    rfl
  have hpy : (part f.type ys f.offset).run P w = .ok b w := by
    rw [ho]
    simp only [part, Sem.run_bind, hagg, Result.andThen_ok, if_false, hy, Bool.false_eq_true]
    rfl
  rw [Op.eqFields]
  simp only [if_pos hn, Sem.run_bind, hpx, hpy, hp, Result.andThen_ok]
  cases p
  · simp
  · simpa using hq
theorem getD_some {xs : Array Value} {i : Nat} (h : i < xs.size) : xs[i]? = some (xs.getD i undef) := by
  rw [Array.getD_eq_getD_getElem?, Array.getElem?_eq_getElem h]
  rfl
theorem eqK_ok (d : Nat) (xs ys : Array Value) : ∀ (fs : List Field) (i : Nat) (ks : List Nat) (cs ds : List AV) (b : Bool),
    eqsFrom P i fs = some ks → eqK ks cs ds = some b → cs.length + i = xs.size → ds.length + i = ys.size →
    (∀ j (h : j < cs.length), RV w G cs[j] (xs.getD (i + j) undef)) → (∀ j (h : j < ds.length), RV w G ds[j] (ys.getD (i + j) undef)) →
    (Op.eqFields (d + 1) xs ys fs).run P w = .ok b w := by
  intro fs
  induction fs with
  | nil =>
    intro i ks cs ds b h1 h2 _ _ _ _
    obtain rfl : [] = ks := by simpa [eqsFrom] using h1
    cases cs <;> cases ds <;> simp [eqK] at h2
    subst h2
    simp [Op.eqFields]
  | cons f fs ih =>
    intro i ks cs ds b h1 h2 h3 h4 h5 h6
    simp only [eqsFrom] at h1
    split at h1
    · rename_i hf
      obtain ⟨k, hk, h1⟩ := Option.bind_eq_some_iff.1 h1
      obtain ⟨u, hu, hku⟩ := Option.bind_eq_some_iff.1 hk
      obtain ⟨ks', hks, rfl⟩ := Option.map_eq_some_iff.1 h1
      have hagg : (isAgg f.type).run P w = .ok false w := by
        cases u <;> simp [kindD] at hku <;> simp [isAgg, run_und hu]
      have tl : ∀ (c e : AV) (cs' ds' : List AV) (q : Bool), cs = c :: cs' → ds = e :: ds' → eqK ks' cs' ds' = some q → (Op.eqFields (d + 1) xs ys fs).run P w = .ok q w := by
        intro c e cs' ds' q hc he hq
        subst hc
        subst he
        simp only [List.length_cons] at h3 h4
        exact ih (i + 1) ks' cs' ds' q hks hq (by omega) (by omega)
          (fun j hj => by have := h5 (j + 1) (by simp; omega); rw [Nat.add_assoc, Nat.add_comm 1 j]; simpa using this)
          (fun j hj => by have := h6 (j + 1) (by simp; omega); rw [Nat.add_assoc, Nat.add_comm 1 j]; simpa using this)
      unfold eqK at h2
      split at h2
      · simp_all
      · rename_i ks2 kx x r ky y s heq
        obtain ⟨rfl, rfl⟩ : k = 0 ∧ ks' = ks2 := by simpa using heq
        split at h2
        rotate_left
        · simp at h2
        rename_i hkk
        subst hkk
        obtain ⟨q, hq, rfl⟩ := Option.map_eq_some_iff.1 h2
        simp only [List.length_cons] at h3 h4
        have e1 := (h5 0 (by simp)).int_inv
        have e2 := (h6 0 (by simp)).int_inv
        obtain ⟨k', rfl⟩ : ∃ k', u = .int k' := by cases u <;> simp [kindD] at hku <;> exact ⟨_, rfl⟩
        exact eqf_step hf.1 hf.2 hagg ((getD_some (by omega)).trans (congrArg some e1)) ((getD_some (by omega)).trans (congrArg some e2)) (run_equalIn_int w d f.type _ _ x y hu) (tl _ _ _ _ _ rfl rfl hq)
      · rename_i ks2 x r y s heq
        obtain ⟨rfl, rfl⟩ : k = 1 ∧ ks' = ks2 := by simpa using heq
        obtain ⟨q, hq, rfl⟩ := Option.map_eq_some_iff.1 h2
        simp only [List.length_cons] at h3 h4
        have e1 := (h5 0 (by simp)).bool_inv
        have e2 := (h6 0 (by simp)).bool_inv
        obtain rfl : u = .bool := by cases u <;> simp [kindD] at hku <;> rfl
        exact eqf_step hf.1 hf.2 hagg ((getD_some (by omega)).trans (congrArg some e1)) ((getD_some (by omega)).trans (congrArg some e2)) (run_equalIn_bool' w d f.type x y hu) (tl _ _ _ _ _ rfl rfl hq)
      · rename_i ks2 x r y s heq
        obtain ⟨rfl, rfl⟩ : k = 2 ∧ ks' = ks2 := by simpa using heq
        obtain ⟨q, hq, rfl⟩ := Option.map_eq_some_iff.1 h2
        simp only [List.length_cons] at h3 h4
        have e1 := (h5 0 (by simp)).str_inv
        have e2 := (h6 0 (by simp)).str_inv
        obtain rfl : u = .string := by cases u <;> simp [kindD] at hku <;> rfl
        exact eqf_step hf.1 hf.2 hagg ((getD_some (by omega)).trans (congrArg some e1)) ((getD_some (by omega)).trans (congrArg some e2)) (run_equalIn_string w d f.type x y hu) (tl _ _ _ _ _ rfl rfl hq)
      · simp at h2
    · simp at h1
theorem evEq_ok {t : Nat} {cs ds : List AV} {xs ys : Array Value} {b : Bool} (h : evEq P t cs ds = some b) (hx : xs.size = cs.length) (hy : ys.size = ds.length)
    (h5 : ∀ j (h : j < cs.length), RV w G cs[j] (xs.getD j undef)) (h6 : ∀ j (h : j < ds.length), RV w G ds[j] (ys.getD j undef)) :
    P.eqGuardType P.depth t = false ∧ (Op.equalIn 10000 t (.agg xs) (.agg ys)).run P w = .ok b w := by
  unfold evEq at h
  obtain ⟨ti, hti, h⟩ := Option.bind_eq_some_iff.1 h
  obtain ⟨ks, hks, h2⟩ := Option.bind_eq_some_iff.1 h
  clear h
  obtain ⟨i, d, hi, hd, rfl⟩ := tiOf_some hti
  simp only at hks
  cases d <;> simp only [eqsOf] at hks <;> try contradiction
  rename_i fs
  split at hks
  · rename_i hh
    have hf : P.fieldsOf t = fs := by simp [Program.fieldsOf, hd]
    refine ⟨hh.2, ?_⟩
    rw [run_equalIn_struct (P := P) w 9999 t xs ys (by rw [hf]; exact hd) hh.1, hf]
    exact eqK_ok 9998 xs ys fs.toList 0 ks cs ds b hks h2 (by omega) (by omega) (fun j hj => by simpa using h5 j hj) (fun j hj => by simpa using h6 j hj)
  · simp at hks

/-! ### places -/
theorem fields_get {fs : Array Field} {f : Nat} {off size : Nat} {agg : Bool} (h : (fieldsD P (.struct fs))[f]? = some (off, size, agg)) :
    ∃ fd : Field, fs[f]? = some fd ∧ fd.offset = off ∧ sizeD P fd.type = size ∧ ((P.underlying fd.type).map isAggD).getD false = agg := by
  simp only [fieldsD, List.getElem?_map, Option.map_eq_some_iff, Array.getElem?_toList, Prod.mk.injEq] at h
  obtain ⟨fd, h1, h2, h3, h4⟩ := h
  exact ⟨fd, h1, h2, h3, h4⟩
theorem sizeD_ne {t : Nat} (h : sizeD P t ≠ 0) : ∃ i d, P.info? t = some i ∧ P.underlying t = some d ∧ sizeD P t = i.size := by
  unfold sizeD at h ⊢
  split at h
  · rename_i i d hi hd
    exact ⟨i, d, hi, hd, rfl⟩
  · simp at h
theorem run_fieldPlace {fd : Field} {i : TypeInfo} (hi : P.info? fd.type = some i) (h : i.size ≠ 0) (a : Addr) : (fieldPlace a fd).run P w = .ok (a.add fd.offset) w := by
  simp [fieldPlace, sizeOf, run_info hi, h]
theorem add_add {ad : Addr} (h : ad.spot = none) (i j : Nat) : (ad.add i).add j = ad.add (i + j) := by
  rw [add_eq h, add_eq h, add_eq (by rfl)]
  simp [Nat.add_assoc]
theorem evFieldAddr_ok {t : Nat} {p a : AV} {pv : Value} {f : Nat} (hp : RV w G p pv) (h : evFieldAddr P t p f = some a) :
    ∃ v, (Instr.fieldAt t pv f).run P w = .ok v w ∧ RV w G a v := by
  unfold evFieldAddr at h
  split at h
  · rename_i hs
    obtain ⟨ti, hti, h⟩ := Option.bind_eq_some_iff.1 h
    obtain ⟨⟨off, size, agg⟩, hf, h⟩ := Option.bind_eq_some_iff.1 h
    simp only at h
    obtain ⟨fs, hu, hfs⟩ := tagOf_struct (of_decide_eq_true hs) hti
    rw [hfs] at hf
    obtain ⟨fd, hfd, rfl, hsize, _⟩ := fields_get hf
    split at h
    · simp at h
    · rename_i h0
      obtain ⟨i, d, hi, hd, hi0⟩ := sizeD_ne (by omega : sizeD P fd.type ≠ 0)
      rw [hi0] at hsize
      have hi0 : i.size ≠ 0 := by omega
      have hrun : ∀ ad : Addr, (Instr.fieldAt t (.pointer (some ad)) f).run P w = .ok (.pointer (some (ad.add fd.offset))) w := by
        intro ad
        simp [Instr.fieldAt, run_und hu, hfd, Instr.sureAddr, run_fieldPlace hi hi0]
      cases p with
      | ptr id o =>
        simp only at h
        obtain rfl := Option.some.inj h
        cases hp with
        | ro hr => cases hr
        | ptr _ _ b hμ => exact ⟨_, hrun _, by rw [add_eq rfl]; exact .ptr _ _ _ hμ⟩
      | eptr id fz e sz xs i o =>
        simp only at h
        obtain rfl := Option.some.inj h
        cases hp with
        | ro hr => cases hr
        | eptr _ _ _ _ _ _ _ ad n c hk hρ =>
          refine ⟨_, hrun _, ?_⟩
          have hsp : ad.spot = none := by
            obtain ⟨_, _, _, _, inner, ho, _⟩ := hk
            rw [hρ] at ho
            rcases ho.2 with ⟨h, _⟩ | ⟨g, cap, cur, h, _⟩
            · simp at h
            · simp only [Value.slice.injEq, Option.some.injEq] at h; rw [h.1]
          rw [add_add hsp, Nat.add_assoc]
          exact .eptr _ _ _ _ _ _ _ _ _ _ hk hρ
      | cptr cs =>
        simp only at h
        obtain rfl := Option.some.inj h
        cases hp with
        | ro hr =>
          cases hr with
          | cptr _ _ ad cv hsp hS hr =>
            refine ⟨_, hrun _, .ro (.cptr _ _ _ (fun j => cv (fd.offset + j)) (by rw [add_eq hsp]) (fun j hj => ?_) (fun j hj => ?_))⟩
            · have hj' : fd.offset + j < cs.length := by simp at hj; omega
              obtain ⟨⟨fl, h1⟩, h2⟩ := hS _ hj'
              rw [add_add hsp]
              refine ⟨⟨fl, ?_⟩, h2⟩
              rw [add_eq hsp]
              simpa [Nat.add_assoc] using h1
            · rw [drop_get hj]
              exact hr _ (by simp at hj; omega)
      | _ => simp at h
  · simp at h
theorem takeVal_ok {agg : Bool} {n : Nat} {cs : List AV} {a : AV} {vs : Array Value} (k : Nat) (h : takeVal agg n (cs.drop k) = some a) (hl : vs.size = cs.length) (hr : ∀ j (h : j < cs.length), RV w G cs[j] (vs.getD j undef)) :
    RV w G a (if agg then .agg (vs.extract k (k + n)) else vs.getD k undef) ∧ (agg = false → k < vs.size) := by
  unfold takeVal at h
  split at h
  · rename_i ha
    split at h
    · rename_i hn
      obtain rfl := Option.some.inj h
      simp only [List.length_drop] at hn
      refine ⟨?_, fun e => by simp [e] at ha⟩
      rw [if_pos ha]
      refine .agg _ _ (by simp; omega) (fun j hj => ?_)
      have hj' : j < n := by simp at hj; omega
      have := hr (k + j) (by simp at hj; omega)
      simp only [List.getElem_take, List.getElem_drop]
      rw [Array.getD_eq_getD_getElem?] at this ⊢
      rw [Array.getElem?_extract]
      rw [if_pos (by omega)]
      exact this
    · simp at h
  · rename_i ha
    have ha' : agg = false := by simpa using ha
    subst ha'
    cases hd : cs.drop k with
    | nil => rw [hd] at h; simp at h
    | cons c r =>
      rw [hd] at h
      obtain rfl : c = a := by simpa using h
      have hk : k < cs.length := by
        apply Classical.byContradiction; intro hn
        rw [List.drop_eq_nil_of_le (by omega)] at hd; simp at hd
      have hc : cs[k] = c := by
        have := List.drop_eq_getElem_cons hk
        rw [hd] at this
        exact (List.cons.inj this).1.symm
      refine ⟨?_, fun _ => by omega⟩
      simp only [Bool.false_eq_true, if_false]
      rw [← hc]
      exact hr k hk
theorem run_part {t k n : Nat} {agg : Bool} {vs : Array Value} (h1 : sizeD P t = n) (h0 : n ≠ 0) (h2 : ((P.underlying t).map isAggD).getD false = agg) (hk : agg = false → k < vs.size) :
    (part t vs k).run P w = .ok (if agg then .agg (vs.extract k (k + n)) else vs.getD k undef) w := by
  obtain ⟨i, d, hi, hd, hs⟩ := sizeD_ne (by omega : sizeD P t ≠ 0)
  have ha : (isAgg t).run P w = .ok agg w := by
    rw [hd] at h2
    cases d <;> simp [isAggD] at h2 <;> subst h2 <;> simp [isAgg, run_und hd]
  cases agg
  · simp only [part, Sem.run_bind, ha, Result.andThen_ok, Bool.false_eq_true, if_false, getD_some (hk rfl)]
    rfl
  · rw [h1] at hs
    simp [part, ha, sizeOf, run_info hi, hs]
theorem evField_ok {t : Nat} {x a : AV} {xv : Value} {f : Nat} (hx : RV w G x xv) (h : evField P t x f = some a) :
    ∃ v, (Instr.field t xv f).run P w = .ok v w ∧ RV w G a v := by
  unfold evField at h
  split at h
  · rename_i hs
    obtain ⟨ti, hti, h⟩ := Option.bind_eq_some_iff.1 h
    obtain ⟨⟨off, size, agg⟩, hf, h⟩ := Option.bind_eq_some_iff.1 h
    obtain ⟨fs, hu, hfs⟩ := tagOf_struct (of_decide_eq_true hs) hti
    rw [hfs] at hf
    obtain ⟨fd, hfd, rfl, hsize, hagg⟩ := fields_get hf
    simp only at h
    cases x with
    | agg cs =>
      simp only at h
      obtain ⟨vs, rfl, hl, hr⟩ := hx.agg_inv
      split at h
      · simp at h
      · rename_i h0
        obtain ⟨hr1, hk⟩ := takeVal_ok (fd.offset) h hl hr
        refine ⟨_, ?_, hr1⟩
        simp [Instr.field, run_und hu, hfd, asAgg, run_part hsize h0 hagg hk]
    | _ => simp at h
  · simp at h
end Go.Proofs.Ytgckhjcfcandmaa.Flat
