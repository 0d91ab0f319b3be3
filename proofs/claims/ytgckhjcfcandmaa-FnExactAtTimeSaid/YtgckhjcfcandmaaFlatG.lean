/-
The operations that change nothing, third part: places in rows, cuts, structs that are built.
-/
import Derived.Test.YtgckhjcfcandmaaFlatF
import Derived.Laws.Slices
import Derived.Laws.Strings2
set_option linter.unusedVariables false
set_option linter.unusedSimpArgs false
namespace Go.Proofs.Ytgckhjcfcandmaa.Flat
variable {P : Program} {w : World} {G : Gh}

theorem getElem?_of_toNat {α : Type} {xs : List α} {n : Int} {x : α} (h : xs[n.toNat]? = some x) (h0 : 0 ≤ n) : n < (xs.length : Int) := by
  have := (List.getElem?_eq_some_iff.1 h).1
  omega
theorem elem_of_slice {t e : Nat} (h : P.underlying t = some (.slice e)) : P.elem t = e := by simp [Program.elem, h]

/-- What is known of a row that is handed on as a value: its header. -/
theorem evIndexAddr_ok {t : Nat} {x i a : AV} {xv iv : Value} (hx : RV w G x xv) (hi : RV w G i iv) (h : evIndexAddr P t x i = some a) :
    ∃ v, (Instr.indexAt t xv iv).run P w = .ok v w ∧ RV w G a v := by
  unfold evIndexAddr at h
  split at h
  · rename_i hs
    obtain ⟨ti, hti, h⟩ := Option.bind_eq_some_iff.1 h
    obtain ⟨te, hte, h⟩ := Option.bind_eq_some_iff.1 h
    have hu := tagOf_slice (of_decide_eq_true hs) hti
    have he := elem_of_slice hu
    have hrun : ∀ (ad : Addr) (len cap : Nat) (k : IntKind) (n : Int), 0 ≤ n → n < len → (Instr.indexAt t (.slice (some ad) len cap) (.int k n)).run P w = .ok (.pointer (some (ad.add (n.toNat * te.size)))) w := by
      intro ad len cap k n h0 h1
      rw [run_indexAt_slice w t ad len cap k n (by rw [he]; exact hu), if_pos ⟨h0, h1⟩, he, run_size hte]
      rfl
    cases x with
    | sl fl xs =>
      cases i with
      | int k n =>
        simp only at h
        split at h
        · rename_i h0
          obtain ⟨x, hx1, h⟩ := Option.bind_eq_some_iff.1 h
          split at h
          · rename_i hsz
            obtain rfl := Option.some.inj h
            obtain rfl := hi.int_inv
            have hlt := getElem?_of_toNat hx1 h0
            have hxm : x ∈ xs := List.mem_of_getElem? hx1
            cases hx with
            | ro hr =>
              cases hr with
              | slNil => simp at hx1
              | sl _ _ _ ad c sz cv hne hc hsp hsz' hcell hS hr =>
                obtain rfl : sz = te.size := by rw [← hsz' x hxm, hsz]
                refine ⟨_, hrun _ _ _ _ _ h0 hlt, .ro (.cptr _ _ _ (fun j => cv (n.toNat * te.size + j)) (by rw [add_eq hsp]) (fun j hj => ?_) (fun j hj => ?_))⟩
                · have hjl : n.toNat * te.size + j < xs.length * te.size := by
                    have : (n.toNat + 1) * te.size ≤ xs.length * te.size := Nat.mul_le_mul_right _ (by omega)
                    rw [Nat.add_mul, Nat.one_mul] at this
                    omega
                  have hh := hS _ hjl
                  rw [add_add hsp]
                  refine ⟨⟨fl, ?_⟩, hh.2⟩
                  rw [add_eq hsp]
                  simpa [Nat.add_assoc] using hh.1
                · have hfl : (flat xs).length = xs.length * te.size := flat_length hsz'
                  have hjl : n.toNat * te.size + j < xs.length * te.size := by
                    have : (n.toNat + 1) * te.size ≤ xs.length * te.size := Nat.mul_le_mul_right _ (by omega)
                    rw [Nat.add_mul, Nat.one_mul] at this
                    omega
                  have h12 := flat_at hsz' n.toNat j x hx1 (by omega)
                  have h13 := hr (n.toNat * te.size + j) (by rw [hfl]; exact hjl)
                  have e : (flat xs)[n.toNat * te.size + j]'(by rw [hfl]; exact hjl) = x.cells[j] := by
                    rw [List.getElem?_eq_getElem (by rw [hfl]; exact hjl), List.getElem?_eq_getElem hj] at h12
                    simpa using h12
                  rw [← e]
                  exact h13.mono sub_le (fun _ _ _ _ => rfl)
          · simp at h
        · simp at h
      | _ => simp at h
    | own id fz e sz xs =>
      cases i with
      | int k n =>
        simp only at h
        split at h
        · rename_i h0
          obtain ⟨rfl, h0, hlt⟩ := h0
          obtain rfl := Option.some.inj h
          obtain rfl := hi.int_inv
          cases hx with
          | ro hr => cases hr
          | own _ _ _ _ _ hk =>
            have hk' := hk
            obtain ⟨_, _, _, _, inner, ho, _⟩ := hk
            rcases ho.2 with ⟨h5, h6⟩ | ⟨g, cap, cur, h5, _⟩
            · omega
            · rw [h5]
              exact ⟨_, hrun _ _ _ _ _ h0 hlt, .eptr _ _ _ _ _ _ 0 _ _ _ hk' h5⟩
        · simp at h
      | _ => simp at h
    | _ => simp at h
  · simp at h

theorem evIndex_ok {t : Nat} {x i a : AV} {xv iv : Value} (hx : RV w G x xv) (hi : RV w G i iv) (h : evIndex P t x i = some a) :
    ∃ v, (Instr.index t xv iv).run P w = .ok v w ∧ RV w G a v := by
  unfold evIndex at h
  split at h
  · rename_i s k n
    split at h
    · rename_i hs
      split at h
      · rename_i h0
        obtain ⟨b, hb, rfl⟩ := Option.map_eq_some_iff.1 h
        obtain rfl := hx.str_inv
        obtain rfl := hi.int_inv
        have hu := tagOf_string (of_decide_eq_true hs)
        exact ⟨_, by simp [Instr.index, asIntOf, run_und hu, h0, hb], rvInt _ _⟩
      · simp at h
    · simp at h
  · rename_i cs k n
    obtain ⟨m, hm, h⟩ := Option.bind_eq_some_iff.1 h
    obtain ⟨ti, hti, h⟩ := Option.bind_eq_some_iff.1 h
    obtain ⟨te, hte, h⟩ := Option.bind_eq_some_iff.1 h
    split at h
    · rename_i h0
      obtain ⟨h1, h2, h3, h4⟩ := h0
      obtain ⟨vs, rfl, hl, hr⟩ := hx.agg_inv
      obtain rfl := hi.int_inv
      have ha : tagOf P t = .array m := by
        unfold isArrayT at hm
        split at hm
        · rename_i n' hn'; rw [hn']; simp at hm; rw [hm]
        · simp at hm
      have hu := tagOf_array ha hti
      have hlt := (List.getElem?_eq_some_iff.1 h).1
      have ha1 := run_agg hte w
      rw [h1] at ha1
      refine ⟨vs.getD n.toNat undef, ?_, ?_⟩
      rotate_left
      · have := hr _ hlt
        rw [(List.getElem?_eq_some_iff.1 h).2] at this
        exact this
      · have hg := getD_some (xs := vs) (i := n.toNat) (by omega)
        simp only [Instr.index, asIntOf, Sem.run_bind, Sem.run_pure, Result.andThen_ok, run_und hu, h3, h4, and_self, if_true, run_size hte, h2, Nat.mul_one, part, ha1, Bool.false_eq_true, if_false, hg]
    · simp at h
  · simp at h

theorem evConvert_ok {s d : Nat} {x a : AV} {xv : Value} (hx : RV w G x xv) (h : evConvert P s d x = some a) : ∃ v, (convert s d xv).run P w = .ok v w ∧ RV w G a v := by
  unfold evConvert at h
  obtain ⟨ts, hts, h2⟩ := Option.bind_eq_some_iff.1 h
  clear h
  obtain ⟨i, ds, hi, hds, rfl⟩ := tiOf_some hts
  cases x with
  | int k n =>
    cases hk : tagOf P d with
    | int k' =>
      simp only [hk] at h2
      obtain rfl := Option.some.inj h2
      obtain rfl := hx.int_inv
      have hu := tagOf_int hk
      refine ⟨_, ?_, rvInt _ _⟩
      simp only [convert, Sem.run_bind, run_und hds, run_und hu, Result.andThen_ok]
      cases ds <;> rfl
    | _ => simp [hk] at h2
  | str st =>
    cases hk : tagOf P d with
    | string =>
      simp only [hk] at h2
      obtain rfl := Option.some.inj h2
      obtain rfl := hx.str_inv
      have hu := tagOf_string hk
      refine ⟨_, ?_, rvStr _⟩
      simp only [convert, Sem.run_bind, run_und hds, run_und hu, Result.andThen_ok]
      cases ds <;> rfl
    | _ => simp [hk] at h2
  | _ => cases hk : tagOf P d <;> simp [hk] at h2

theorem RV.sl_inv {fl : Bool} {xs : List AV} {v : Value} (h : RV w G (.sl fl xs) v) : ∃ A c, v = .slice A xs.length c ∧ xs.length ≤ c := by
  cases h with
  | ro h => cases h with
    | slNil _ _ A c h => exact ⟨A, c, rfl, Nat.zero_le _⟩
    | sl _ _ _ ad c sz cv hne hc => exact ⟨_, c, rfl, hc⟩
theorem RV.own_inv {id : Nat} {fz : Bool} {e sz : Nat} {xs : List AV} {v : Value} (h : RV w G (.own id fz e sz xs) v) : v = G.ρ id ∧ RowOK w G id fz e sz xs := by
  cases h with
  | ro h => cases h
  | own _ _ _ _ _ h => exact ⟨rfl, h⟩
theorem RowOK.header {id : Nat} {fz : Bool} {e sz : Nat} {xs : List AV} (h : RowOK w G id fz e sz xs) : ∃ A c, G.ρ id = .slice A xs.length c ∧ xs.length ≤ c := by
  obtain ⟨_, _, _, _, inner, ho, _⟩ := h
  rcases ho.2 with ⟨h5, h6⟩ | ⟨g, cap, cur, h5, _, _, h6, _⟩
  · exact ⟨none, 0, by rw [h5, h6], by omega⟩
  · exact ⟨_, cap, h5, h6⟩
theorem RV.nils_inv {v : Value} (h : RV w G .nils v) : v = .slice none 0 0 := by
  cases h with
  | ro h => cases h
  | nils => rfl
theorem run_len_sl {t e : Nat} {A : Option Addr} {n c : Nat} (h : P.underlying t = some (.slice e)) (ts : Array TypeId) (ht : ts[0]? = some t) (ty : Nat) :
    (Builtin.len_ ts ty #[.slice A n c]).run P w = .ok (.int .i64 n) w := by
  simp [Builtin.len_, ht, run_und h, goInt]
theorem evLen_ok {t : Nat} {x a : AV} {xv : Value} (hx : RV w G x xv) (h : evLen P t x = some a) (ts : Array TypeId) (ht : ts[0]? = some t) (ty : Nat) : ∃ v, (Builtin.len_ ts ty #[xv]).run P w = .ok v w ∧ RV w G a v := by
  have key : ∀ {A : Option Addr} {n c : Nat}, isSliceT P t = true → (Builtin.len_ ts ty #[.slice A n c]).run P w = .ok (.int .i64 n) w := by
    intro A n c hs
    have hne : tagOf P t = .slice := of_decide_eq_true hs
    obtain ⟨d, hd, hg⟩ := tagOf_some hne (by simp)
    cases d <;> simp [tagD] at hg
    exact run_len_sl hd ts ht ty
  cases x with
  | str s =>
    simp only [evLen] at h
    split at h
    · rename_i hs
      obtain rfl := Option.some.inj h
      obtain rfl := hx.str_inv
      have hu := tagOf_string (of_decide_eq_true hs)
      exact ⟨_, by simp [Builtin.len_, ht, run_und hu, goInt], rvInt _ _⟩
    · simp at h
  | nils =>
    simp only [evLen] at h
    split at h
    · rename_i hs
      obtain rfl := Option.some.inj h
      obtain rfl := hx.nils_inv
      exact ⟨_, key hs, rvInt _ _⟩
    · simp at h
  | sl fl xs =>
    simp only [evLen] at h
    split at h
    · rename_i hs
      obtain rfl := Option.some.inj h
      obtain ⟨A, c, rfl, _⟩ := hx.sl_inv
      exact ⟨_, key hs, rvInt _ _⟩
    · simp at h
  | own id fz e sz xs =>
    simp only [evLen] at h
    split at h
    · rename_i hs
      obtain rfl := Option.some.inj h
      obtain ⟨rfl, hk⟩ := hx.own_inv
      obtain ⟨A, c, hA, _⟩ := hk.header
      rw [hA]
      exact ⟨_, key hs, rvInt _ _⟩
    · simp at h
  | _ => simp [evLen] at h

theorem evUn_ok {op : UnOp} {x a : AV} {xv : Value} (hx : RV w G x xv) (h : evUn op x = some a) : ∃ v, (Op.unary op xv).run P w = .ok v w ∧ RV w G a v := by
  unfold evUn at h
  split at h
  · obtain rfl := Option.some.inj h
    obtain rfl := hx.int_inv
    exact ⟨_, rfl, rvInt _ _⟩
  · obtain rfl := Option.some.inj h
    obtain rfl := hx.bool_inv
    exact ⟨_, rfl, rvBool _⟩
  · simp at h

/-! ### cuts -/
theorem evCutStr_ok {t : Nat} {s : ByteArray} {lo hi : Option AV} {a : AV} {lv hv : Option Value} (ht : isStringT P t = true) (hl : match lo, lv with | none, none => True | some x, some v => RV w G x v | _, _ => False)
    (hh : match hi, hv with | none, none => True | some x, some v => RV w G x v | _, _ => False) (h : evCutStr s lo hi = some a) :
    ∃ v, (Instr.sliceAt t (.string s) lv hv none).run P w = .ok v w ∧ RV w G a v := by
  have hu := tagOf_string (of_decide_eq_true ht)
  have hsl : (Instr.sliceAt t (.string s) lv hv none).run P w = (Instr.slice t (.string s) lv hv none).run P w := by simp [Instr.sliceAt, run_und hu]
  rw [hsl]
  unfold evCutStr at h
  split at h
  · obtain rfl := Option.some.inj h
    cases lv <;> simp at hl
    cases hv <;> simp at hh
    exact ⟨_, run_slice_string_all w t s hu, rvStr _⟩
  · split at h
    · rename_i k n hn
      obtain rfl := Option.some.inj h
      cases hv <;> simp at hh
      cases lv with
      | none => simp at hl
      | some v =>
        obtain rfl := RV.int_inv hl
        exact ⟨_, run_slice_string_l w t s hu k n hn.1 hn.2, rvStr _⟩
    · simp at h
  · split at h
    · rename_i k n hn
      obtain rfl := Option.some.inj h
      cases lv <;> simp at hl
      cases hv with
      | none => simp at hh
      | some v =>
        obtain rfl := RV.int_inv hh
        exact ⟨_, run_slice_string_h w t s hu k n hn.1 hn.2, rvStr _⟩
    · simp at h
  · split at h
    · rename_i k n k' m hn
      obtain rfl := Option.some.inj h
      cases lv with
      | none => simp at hl
      | some v =>
        cases hv with
        | none => simp at hh
        | some v' =>
          obtain rfl := RV.int_inv hl
          obtain rfl := RV.int_inv hh
          exact ⟨_, run_slice_string w t s k k' n m hu hn.1 hn.2.1 hn.2.2, rvStr _⟩
    · simp at h
  · simp at h

theorem flat_drop {xs : List AV} {sz : Nat} (h : ∀ x ∈ xs, x.cells.length = sz) (l : Nat) : flat (xs.drop l) = (flat xs).drop (l * sz) := by
  induction xs generalizing l with
  | nil => simp [flat]
  | cons x xs ih =>
    cases l with
    | zero => simp
    | succ l =>
      have hx := h x (by simp)
      have e : (l + 1) * sz = sz + l * sz := by rw [Nat.add_mul]; omega
      have e2 : x.cells.drop (sz + l * sz) = [] := List.drop_eq_nil_of_le (by omega)
      rw [List.drop_succ_cons, ih (fun y hy => h y (by simp [hy])), flat_cons, List.drop_append, hx, e, e2, List.nil_append, Nat.add_sub_cancel_left]
theorem flat_take {xs : List AV} {sz : Nat} (h : ∀ x ∈ xs, x.cells.length = sz) (l : Nat) : flat (xs.take l) = (flat xs).take (l * sz) := by
  induction xs generalizing l with
  | nil => simp [flat]
  | cons x xs ih =>
    cases l with
    | zero => simp [flat]
    | succ l =>
      have hx := h x (by simp)
      have e : (l + 1) * sz = sz + l * sz := by rw [Nat.add_mul]; omega
      have e2 : x.cells.take (sz + l * sz) = x.cells := List.take_of_length_le (by omega)
      rw [List.take_succ_cons, flat_cons, flat_cons, ih (fun y hy => h y (by simp [hy])), List.take_append, hx, e, e2, Nat.add_sub_cancel_left]
/-- A cut of a row that is read. -/
theorem RO.cut {S : Cells} {fl : Bool} {xs : List AV} {A : Option Addr} {n c l h size : Nat} (hx : RO w S (.sl fl xs) (.slice A n c)) (hlh : l ≤ h) (hh : h ≤ xs.length) (hsz0 : l = 0 ∨ ∀ x ∈ xs, x.cells.length = size) :
    RO w S (.sl fl ((xs.take h).drop l)) (sliced A l h c size) := by
  have hcap : xs.length ≤ c := by
    cases hx with
    | slNil => exact Nat.zero_le _
    | sl _ _ _ ad _ sz cv hne hc => exact hc
  by_cases hemp : (xs.take h).drop l = []
  · rw [hemp]
    have hlen : h - l = 0 := by
      have := congrArg List.length hemp
      simp at this
      omega
    unfold sliced
    rw [hlen]
    refine .slNil _ _ _ _ (fun hA => ?_)
    split at hA
    · subst hA
      cases hx with
      | slNil _ _ _ _ h0 => have := h0 rfl; omega
    · rename_i hcl
      cases A with
      | some ad => simp at hA
      | none =>
        cases hx with
        | slNil _ _ _ _ h0 => have := h0 rfl; omega
  · have hlt : l < h := by
      apply Classical.byContradiction; intro hn
      exact hemp (by rw [List.drop_eq_nil_of_le (by simp; omega)])
    cases hx with
    | slNil => simp at hemp
    | sl _ _ _ ad _ sz cv hne hc hsp hsz hcell hS hr =>
      have hne2 : c ≠ l := by omega
      have hs : l * size = l * sz := by
        rcases hsz0 with rfl | hs
        · simp
        · cases xs with
          | nil => simp at hemp
          | cons x r => rw [← hs x (by simp), hsz x (by simp)]
      unfold sliced
      rw [if_neg hne2, hs]
      have hlen : ((xs.take h).drop l).length = h - l := by simp; omega
      rw [← hlen, Option.map_some]
      have hmul : h * sz ≤ xs.length * sz := Nat.mul_le_mul_right _ hh
      have hlm : l * sz + (h - l) * sz = h * sz := by rw [← Nat.add_mul]; congr 1; omega
      have hflat : flat ((xs.take h).drop l) = ((flat xs).take (h * sz)).drop (l * sz) := by
        rw [flat_drop (fun x hx => hsz x (List.mem_of_mem_take hx)), flat_take hsz]
      have hmem : ∀ x ∈ (xs.take h).drop l, x ∈ xs := fun x hx => List.mem_of_mem_take (List.mem_of_mem_drop hx)
      refine .sl _ fl _ (ad.add (l * sz)) (c - l) sz (fun j => cv (l * sz + j)) hemp (by omega) (by rw [add_eq hsp]) (fun x hx => hsz x (hmem x hx)) (fun y hy => ?_) (fun j hj => ?_) (fun j hj => ?_)
      · rw [hflat] at hy
        exact hcell y (List.mem_of_mem_take (List.mem_of_mem_drop hy))
      · rw [hlen] at hj
        have hh := hS (l * sz + j) (by omega)
        rw [add_add hsp]
        refine ⟨?_, hh.2⟩
        rw [add_eq hsp]
        simpa [Nat.add_assoc] using hh.1
      · have hfl : (flat xs).length = xs.length * sz := flat_length hsz
        have hj' := hj
        rw [hflat] at hj'
        simp only [List.length_drop, List.length_take] at hj'
        have e : (flat ((xs.take h).drop l))[j] = (flat xs)[l * sz + j]'(by omega) := by
          simp [hflat]
        rw [e]
        exact hr _ _
theorem evCutRow_ok {t : Nat} {fl : Bool} {xs : List AV} {ti te : TI} {lo hi : Option AV} {a : AV} {xv : Value} {lv hv : Option Value} (ht : isSliceT P t = true) (hti : tiOf P t = some ti) (hte : tiOf P ti.elem = some te) (hx : RV w G (.sl fl xs) xv)
    (hl : match lo, lv with | none, none => True | some x, some v => RV w G x v | _, _ => False)
    (hh : match hi, hv with | none, none => True | some x, some v => RV w G x v | _, _ => False) (h : evCutRow te.size fl xs lo hi = some a) :
    ∃ v, (Instr.sliceAt t xv lv hv none).run P w = .ok v w ∧ RV w G a v := by
  have hu := tagOf_slice (of_decide_eq_true ht) hti
  have he := elem_of_slice hu
  have hsl : (Instr.sliceAt t xv lv hv none).run P w = (Instr.slice t xv lv hv none).run P w := by simp [Instr.sliceAt, run_und hu]
  rw [hsl]
  obtain ⟨A, c, rfl, hcap⟩ := hx.sl_inv
  have hro : RO w G.S (.sl fl xs) (.slice A xs.length c) := by
    cases hx with
    | ro h => exact h
  have hu' : P.underlying t = some (.slice (P.elem t)) := by rw [he]; exact hu
  have hsize := run_size (w := w) hte
  unfold evCutRow at h
  split at h
  · split at h
    · rename_i k n hn
      obtain ⟨h0, h1, h2⟩ := hn
      obtain rfl := Option.some.inj h
      cases hv <;> simp at hh
      cases lv with
      | none => simp at hl
      | some v =>
        obtain rfl := RV.int_inv hl
        refine ⟨_, by rw [run_slice_l w t A xs.length c hu' k n h0 h1, he, hsize]; rfl, ?_⟩
        have := hro.cut (l := n.toNat) (h := xs.length) (size := te.size) (by omega) (Nat.le_refl _) (.inr (by simpa using h2))
        rw [List.take_length] at this
        exact .ro this
    · simp at h
  · split at h
    · rename_i k n hn
      obtain ⟨h0, h1⟩ := hn
      obtain rfl := Option.some.inj h
      cases lv <;> simp at hl
      cases hv with
      | none => simp at hh
      | some v =>
        obtain rfl := RV.int_inv hh
        refine ⟨_, by rw [run_slice_h w t A xs.length c hu' k n h0 (by omega), he, hsize]; rfl, ?_⟩
        have := hro.cut (l := 0) (h := n.toNat) (size := te.size) (by omega) (by omega) (.inl rfl)
        rw [List.drop_zero] at this
        exact .ro this
    · simp at h
  · split at h
    · rename_i k n k' m hn
      obtain ⟨h0, h1, h2, h3⟩ := hn
      obtain rfl := Option.some.inj h
      cases lv with
      | none => simp at hl
      | some v =>
        cases hv with
        | none => simp at hh
        | some v' =>
          obtain rfl := RV.int_inv hl
          obtain rfl := RV.int_inv hh
          refine ⟨_, by rw [run_slice_lh w t A xs.length c hu' k k' n m h0 h1 (by omega), he, hsize]; rfl, ?_⟩
          exact .ro (hro.cut (l := n.toNat) (h := m.toNat) (size := te.size) (by omega) (by omega) (.inr (by simpa using h3)))
    · simp at h
  · simp at h

end Go.Proofs.Ytgckhjcfcandmaa.Flat
