/-
The operations that change nothing, one by one.
-/
import Derived.Test.YtgckhjcfcandmaaFlatD
set_option linter.unusedVariables false
set_option linter.unusedSimpArgs false
namespace Go.Proofs.Ytgckhjcfcandmaa.Flat
variable {P : Program} {w : World} {G : Gh}

theorem RV.int_inv {k : IntKind} {n : Int} {v : Value} (h : RV w G (.int k n) v) : v = .int k n := by
  cases h with
  | ro h => cases h; rfl
theorem RV.bool_inv {b : Bool} {v : Value} (h : RV w G (.bool b) v) : v = .bool b := by
  cases h with
  | ro h => cases h; rfl
theorem RV.str_inv {s : ByteArray} {v : Value} (h : RV w G (.str s) v) : v = .string s := by
  cases h with
  | ro h => cases h; rfl
theorem RV.agg_inv {cs : List AV} {v : Value} (h : RV w G (.agg cs) v) : ∃ vs, v = .agg vs ∧ vs.size = cs.length ∧ ∀ j (h : j < cs.length), RV w G cs[j] (vs.getD j undef) := by
  cases h with
  | ro h => cases h with
    | agg _ _ vs hl hr => exact ⟨vs, rfl, hl, fun j hj => .ro (hr j hj)⟩
  | agg _ vs hl hr => exact ⟨vs, rfl, hl, hr⟩
theorem RV.tup_inv {cs : List AV} {v : Value} (h : RV w G (.tup cs) v) : ∃ vs, v = .tuple vs ∧ vs.size = cs.length ∧ ∀ j (h : j < cs.length), RV w G cs[j] (vs.getD j undef) := by
  cases h with
  | ro h => cases h with
    | tup _ _ vs hl hr => exact ⟨vs, rfl, hl, fun j hj => .ro (hr j hj)⟩
  | tup _ vs hl hr => exact ⟨vs, rfl, hl, hr⟩
theorem RV.clo_inv {f : Nat} {cs : List AV} {v : Value} (h : RV w G (.clo f cs) v) : ∃ vs, v = .func (.func f) #[] vs ∧ vs.size = cs.length ∧ ∀ j (h : j < cs.length), RV w G cs[j] (vs.getD j undef) := by
  cases h with
  | ro h => cases h with
    | clo _ _ _ vs hl hr => exact ⟨vs, rfl, hl, fun j hj => .ro (hr j hj)⟩
  | clo _ _ vs hl hr => exact ⟨vs, rfl, hl, hr⟩
theorem rvInt (k : IntKind) (n : Int) : RV w G (.int k n) (.int k n) := .ro (.int _ k n)
theorem rvBool (b : Bool) : RV w G (.bool b) (.bool b) := .ro (.bool _ b)
theorem rvStr (s : ByteArray) : RV w G (.str s) (.string s) := .ro (.str _ s)
theorem rvUndef (v : Value) : RV w G .undef v := .ro (.undef _ v)

theorem tagOf_some {t : Nat} {g : Tag} (h : tagOf P t = g) (hne : g ≠ .other) : ∃ d, P.underlying t = some d ∧ tagD d = g := by
  unfold tagOf at h
  split at h
  · rename_i ti hti
    obtain ⟨i, d, hi, hd, rfl⟩ := tiOf_some hti
    exact ⟨d, hd, h⟩
  · exact absurd h.symm hne
theorem tagOf_bool {t : Nat} (h : tagOf P t = .bool) : P.underlying t = some .bool := by
  obtain ⟨d, hd, ht⟩ := tagOf_some h (by simp)
  cases d <;> simp [tagD] at ht
  exact hd
theorem tagOf_string {t : Nat} (h : tagOf P t = .string) : P.underlying t = some .string := by
  obtain ⟨d, hd, ht⟩ := tagOf_some h (by simp)
  cases d <;> simp [tagD] at ht
  exact hd
theorem tagOf_int {t : Nat} {k : IntKind} (h : tagOf P t = .int k) : P.underlying t = some (.int k) := by
  obtain ⟨d, hd, ht⟩ := tagOf_some h (by simp)
  cases d <;> simp [tagD] at ht
  subst ht
  exact hd
theorem tagOf_slice {t : Nat} {ti : TI} (h : tagOf P t = .slice) (hti : tiOf P t = some ti) : P.underlying t = some (.slice ti.elem) := by
  obtain ⟨i, d, hi, hd, rfl⟩ := tiOf_some hti
  simp only [tagOf, hti] at h
  cases d <;> simp [tagD] at h
  exact hd
theorem tagOf_struct {t : Nat} {ti : TI} (h : tagOf P t = .struct) (hti : tiOf P t = some ti) : ∃ fs, P.underlying t = some (.struct fs) ∧ ti.fields = fieldsD P (.struct fs) := by
  obtain ⟨i, d, hi, hd, rfl⟩ := tiOf_some hti
  simp only [tagOf, hti] at h
  cases d <;> simp [tagD] at h
  exact ⟨_, hd, rfl⟩
theorem tagOf_array {t n : Nat} {ti : TI} (h : tagOf P t = .array n) (hti : tiOf P t = some ti) : P.underlying t = some (.array n ti.elem) := by
  obtain ⟨i, d, hi, hd, rfl⟩ := tiOf_some hti
  simp only [tagOf, hti] at h
  cases d <;> simp [tagD] at h
  subst h
  exact hd

theorem evInt_ok {op : BinOp} {k : IntKind} {x y : Int} {a : AV} (ho : op ≠ .shl ∧ op ≠ .shr) (h : evInt op k x y = some a) (t : Nat) : ∃ v, (binOp op t (.int k x) (.int k y)).run P w = .ok v w ∧ RV w G a v := by
  obtain ⟨h1, h2⟩ := ho
  cases op <;> simp only [evInt] at h <;> try contradiction
  all_goals
    first
      | (obtain rfl := Option.some.inj h
         refine ⟨_, by simp only [binOp, ne_eq, not_true, if_false]; rfl, ?_⟩
         first | exact rvInt _ _ | exact rvBool _)
      | (split at h
         · simp at h
         · rename_i hy
           obtain rfl := Option.some.inj h
           refine ⟨_, by first | (simp [binOp, Op.intDiv, hy]; done) | (simp [binOp, Op.intDiv, hy]; rfl), rvInt _ _⟩)

theorem evShift_ok {op : BinOp} {k k' : IntKind} {x y : Int} {a : AV} (ho : op = .shl ∨ op = .shr) (h : evShift op k x y = some a) (t : Nat) : ∃ v, (binOp op t (.int k x) (.int k' y)).run P w = .ok v w ∧ RV w G a v := by
  unfold evShift at h
  split at h
  · simp at h
  · rename_i hy
    rcases ho with rfl | rfl
    · obtain rfl := Option.some.inj h
      exact ⟨_, by simp [binOp, Op.shift, hy], rvInt _ _⟩
    · obtain rfl := Option.some.inj h
      exact ⟨_, by simp [binOp, Op.shift, hy], rvInt _ _⟩

theorem evStr_ok {op : BinOp} {x y : ByteArray} {a : AV} (h : evStr op x y = some a) (t : Nat) : ∃ v, (binOp op t (.string x) (.string y)).run P w = .ok v w ∧ RV w G a v := by
  cases op <;> simp only [evStr] at h <;> try contradiction
  all_goals
    first
      | (obtain rfl := Option.some.inj h
         exact ⟨_, rfl, rvBool _⟩)
      | (split at h
         · simp at h
         · rename_i hy
           obtain rfl := Option.some.inj h
           refine ⟨_, by simp only [binOp, Op.stringOp]; rw [if_neg hy]; rfl, rvStr _⟩)

theorem evBin_ok {op : BinOp} {t : Nat} {x y a : AV} {X Y : Value} (hx : RV w G x X) (hy : RV w G y Y) (h : evBin P op t x y = some a) (p q : Operand) :
    ∃ v, ((do eqGuard op t p q X Y; binOp op t X Y : Sem Value)).run P w = .ok v w ∧ RV w G a v := by
  unfold evBin at h
  split at h
  · obtain rfl := hx.int_inv
    obtain rfl := hy.int_inv
    have hg : ∀ (k k' : IntKind) (a b : Int), (eqGuard op t p q (.int k a) (.int k' b)).run P w = .ok () w := by
      intro k k' a b; unfold eqGuard; split <;> rfl
    simp only [Sem.run_bind, hg, Result.andThen_ok]
    split at h
    · exact evShift_ok (.inl rfl) h t
    · exact evShift_ok (.inr rfl) h t
    · rename_i h1 h2
      split at h
      · rename_i hk; subst hk; exact evInt_ok ⟨h1, h2⟩ h t
      · simp at h
  · obtain rfl := hx.str_inv
    obtain rfl := hy.str_inv
    have hg : ∀ (a b : ByteArray), (eqGuard op t p q (.string a) (.string b)).run P w = .ok () w := by
      intro a b; unfold eqGuard; split <;> rfl
    simp only [Sem.run_bind, hg, Result.andThen_ok]
    exact evStr_ok h t
  · obtain rfl := hx.bool_inv
    obtain rfl := hy.bool_inv
    have hg : ∀ (a b : Bool), (eqGuard op t p q (.bool a) (.bool b)).run P w = .ok () w := by
      intro a b; unfold eqGuard; split <;> rfl
    simp only [Sem.run_bind, hg, Result.andThen_ok]
    split at h
    · rename_i ht
      have hu := tagOf_bool ht
      split at h
      · obtain rfl := Option.some.inj h
        exact ⟨_, run_eql_bool w t _ _ hu, rvBool _⟩
      · obtain rfl := Option.some.inj h
        exact ⟨_, run_neq_bool w t _ _ hu, rvBool _⟩
      · simp at h
    · simp at h
  · simp at h

end Go.Proofs.Ytgckhjcfcandmaa.Flat
