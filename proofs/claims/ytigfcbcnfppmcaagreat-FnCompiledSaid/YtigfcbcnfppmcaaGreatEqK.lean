/-
Diagrams built from tables: what they answer. Plain lists alone.
-/
import Derived.Test.YtigfcbcnfppmcaaGreatEqTO
import Derived.Test.YtigfcbcnfppmcaaGreatEqFA
import Derived.Test.YtigfcbcnfppmcaaGreatEqQ
import Derived.Test.YtigfcbcnfppmcaaGreatEqL
import Derived.Test.YtigfcbcnfppmcaaGreatEqR
import Derived.Test.YtigfcbcnfppmcaaGreatEqG
set_option linter.unusedVariables false
set_option linter.unusedSimpArgs false
namespace Go.Proofs.YtigfcbcnfppmcaaGreat.Flat
/-- Every node is right behind those before it. -/
def GoodN (A : Int) (ns : List Choice) : Prop := ∀ i x, ns[i]? = some x → okChoice A (ns.take i) x = true
theorem okLoopN (A : Int) (ns : List Choice) (f : Bool) : ∀ (r : List Choice) (k : Nat), loopL (okStep A ns) (fun _ => f) k r () = true ↔ f = true ∧ ∀ j x, r[j]? = some x → okChoice A (ns.take (k + j)) x = true
  | [], k => by simp [loopL]
  | x :: r, k => by
    simp -implicitDefEqProofs only [loopL, okStep]
    by_cases h : okChoice A (ns.take k) x = true
    · rw [if_pos h]
      simp only
      rw [okLoopN A ns f r (k + 1)]
      constructor
      · rintro ⟨h1, h2⟩
        refine ⟨h1, fun j e he => ?_⟩
        cases j with
        | zero => simp at he; subst he; exact h
        | succ j => simp at he; have := h2 j e he; rw [show k + (j + 1) = k + 1 + j by omega]; exact this
      · rintro ⟨h1, h2⟩
        refine ⟨h1, fun j e he => ?_⟩
        have := h2 (j + 1) e (by simpa using he)
        rw [show k + (j + 1) = k + 1 + j by omega] at this
        exact this
    · rw [if_neg h]
      simp only
      constructor
      · intro h1; simp at h1
      · rintro ⟨h1, h2⟩
        exact absurd (h2 0 x (by simp)) h
theorem isDiagram_iff {d : Diagram} : isDiagram d = true ↔ (inR d.atoms 0 6 && inR d.root (-2) ((d.nodes.length : Int) - 1)) = true ∧ GoodN d.atoms d.nodes := by
  unfold isDiagram GoodN
  rw [okLoopN]
  simp -implicitDefEqProofs only [Nat.zero_add]
def D (ns : List Choice) : Diagram := ⟨0, ns, 0⟩
theorem goesTo_D (d : Diagram) (v : List Bool) (z : Int) : goesTo d v z = goesTo (D d.nodes) v z := rfl
theorem ansF_D (d : Diagram) (v : List Bool) : ∀ (n : Nat) (z : Int), ansF d v n z = ansF (D d.nodes) v n z
  | 0, _ => rfl
  | n + 1, z => by simp -implicitDefEqProofs only [ansF]; rw [ansF_D d v n, goesTo_D d]
theorem good_lt {A : Int} {ns : List Choice} (h : GoodN A ns) (v : List Bool) {z : Int} (h0 : 0 ≤ z) (h1 : z < ns.length) : goesTo (D ns) v z < z ∧ -2 ≤ goesTo (D ns) v z := by
  have hx : ns[z.toNat]? = some (ns.getD z.toNat default) := by
    rw [List.getD_eq_getElem?_getD, List.getElem?_eq_getElem (by omega)]; rfl
  have h2 := choice_ok (h _ _ hx)
  rw [List.length_take] at h2
  unfold goesTo D
  simp only
  split <;> omega
theorem ans_fuel {A : Int} {ns : List Choice} (h : GoodN A ns) (v : List Bool) : ∀ (n m : Nat) (z : Int), z < ns.length → (z + 1).toNat ≤ n → (z + 1).toNat ≤ m → ansF (D ns) v n z = ansF (D ns) v m z
  | 0, m, z, hz, hn, hm => by rw [ansF_neg (n := 0) (by omega), ansF_neg (by omega)]
  | n + 1, 0, z, hz, hn, hm => by rw [ansF_neg (by omega), ansF_neg (n := 0) (by omega)]
  | n + 1, m + 1, z, hz, hn, hm => by
    by_cases h0 : 0 ≤ z
    · have hl := good_lt h v h0 hz
      rw [ansF_pos h0, ansF_pos h0]
      exact ans_fuel h v n m _ (by omega) (by omega) (by omega)
    · rw [ansF_neg h0, ansF_neg h0]
/-- What a place of a diagram comes to. -/
def evN (ns : List Choice) (v : List Bool) (z : Int) : Int := ansF (D ns) v (ns.length + 1) z
theorem evN_neg {ns : List Choice} {v : List Bool} {z : Int} (h : ¬ 0 ≤ z) : evN ns v z = z := ansF_neg h
theorem evN_at {A : Int} {ns : List Choice} (h : GoodN A ns) {v : List Bool} {i : Nat} {x : Choice} (hx : ns[i]? = some x) : evN ns v (i : Int) = evN ns v (if v.getD x.atom.toNat false = true then x.high else x.low) := by
  have hi := (List.getElem?_eq_some_iff.1 hx).1
  have h2 := choice_ok (h _ _ hx)
  have hg : goesTo (D ns) v (i : Int) = if v.getD x.atom.toNat false = true then x.high else x.low := by
    unfold goesTo D
    have hd : ns.getD ((i : Nat) : Int).toNat default = x := by rw [List.getD_eq_getElem?_getD, Int.toNat_natCast, hx]; rfl
    simp -implicitDefEqProofs only [hd]
    by_cases hv : x.atom < v.length
    · simp [hv]
    · have : v.getD x.atom.toNat false = false := by
        rw [List.getD_eq_getElem?_getD, List.getElem?_eq_none (by omega)]; rfl
      rw [this]; simp [hv]
  have hl := good_lt h v (z := (i : Int)) (by omega) (by omega)
  unfold evN
  rw [ansF_pos (by omega), hg]
  rw [hg] at hl
  exact ans_fuel h v _ _ _ (by omega) (by omega) (by omega)
theorem good_prefix {A : Int} {ns t : List Choice} (h : GoodN A (ns ++ t)) : GoodN A ns := fun i x hx => by
  have hi := (List.getElem?_eq_some_iff.1 hx).1
  have := h i x (by rw [List.getElem?_append_left hi]; exact hx)
  rw [List.take_append_of_le_length (by omega)] at this
  exact this
theorem evN_prefix {A : Int} {ns t : List Choice} (h : GoodN A (ns ++ t)) (v : List Bool) : ∀ (k : Nat) (z : Int), (z + 1).toNat ≤ k → z < ns.length → evN (ns ++ t) v z = evN ns v z
  | 0, z, hk, hz => by rw [evN_neg (by omega), evN_neg (by omega)]
  | k + 1, z, hk, hz => by
    by_cases h0 : 0 ≤ z
    · have hlt : z.toNat < ns.length := by omega
      have e : z = ((z.toNat : Nat) : Int) := by omega
      have hx := List.getElem?_eq_getElem hlt
      have hx' : (ns ++ t)[z.toNat]? = some ns[z.toNat] := by rw [List.getElem?_append_left hlt]; exact hx
      have h2 := choice_ok (good_prefix h _ _ hx)
      rw [List.length_take] at h2
      rw [e, evN_at h hx', evN_at (good_prefix h) hx]
      split
      · exact evN_prefix h v k _ (by omega) (by omega)
      · exact evN_prefix h v k _ (by omega) (by omega)
    · rw [evN_neg h0, evN_neg h0]
/-- Which place of the table the values ask for: from atom a on. -/
def idxF (v : List Bool) : Nat → Nat → Nat → Nat
  | 0, _, g => g
  | m + 1, a, g => if v.getD a false = true then idxF v m (a + 1) (g + 2 ^ a) else idxF v m (a + 1) g
/-- A place that a node of an atom below a may lead to. -/
def Place (ns : List Choice) (a : Nat) (z : Int) : Prop := -2 ≤ z ∧ z < ns.length ∧ ∀ x, 0 ≤ z → ns[z.toNat]? = some x → (a : Int) ≤ x.atom
theorem Place.mono {ns t : List Choice} {a : Nat} {z : Int} (h : Place ns a z) : Place (ns ++ t) a z :=
  ⟨h.1, by have := h.2.1; simp -implicitDefEqProofs only [List.length_append]; omega, fun x h0 hx => h.2.2 x h0 (by have := h.2.1; rw [List.getElem?_append_left (by omega)] at hx; exact hx)⟩
theorem place_next {ns : List Choice} {a : Nat} {z lo hi : Int} (h : Place ns (a + 1) z) : okNext ns ⟨(a : Nat), lo, hi⟩ z = true := by
  unfold okNext inR
  simp -implicitDefEqProofs only [Bool.and_eq_true, Bool.or_eq_true, decide_eq_true_eq]
  refine ⟨⟨h.1, by have := h.2.1; omega⟩, ?_⟩
  by_cases h0 : z < 0
  · exact .inl h0
  · have hlt : z.toNat < ns.length := by have := h.2.1; omega
    have := h.2.2 _ (by omega) (List.getElem?_eq_getElem hlt)
    right
    rw [List.getD_eq_getElem?_getD, List.getElem?_eq_getElem hlt]
    simp -implicitDefEqProofs only [Option.getD_some]
    omega
theorem indexBy_at {α : Type} {p : α → Bool} : ∀ (l : List α) (k : Nat), 0 ≤ indexBy p k l → ∃ i x, indexBy p k l = ((k + i : Nat) : Int) ∧ l[i]? = some x ∧ p x = true
  | [], k, h => by simp [indexBy] at h
  | y :: r, k, h => by
    simp -implicitDefEqProofs only [indexBy] at h ⊢
    split
    · rename_i hp
      exact ⟨0, y, by simp, by simp, hp⟩
    · rename_i hp
      rw [if_neg hp] at h
      obtain ⟨i, x, h1, h2, h3⟩ := indexBy_at r (k + 1) h
      exact ⟨i + 1, x, by rw [h1]; omega, by simpa using h2, h3⟩
theorem indexBy_noneG {α : Type} {p : α → Bool} : ∀ (l : List α) (k : Nat), ¬ 0 ≤ indexBy p k l → l.any p = false
  | [], k, h => rfl
  | y :: r, k, h => by
    simp -implicitDefEqProofs only [indexBy] at h
    split at h
    · omega
    · rename_i hp
      simp -implicitDefEqProofs only [List.any_cons, indexBy_noneG r (k + 1) h, Bool.or_false]
      simpa using hp
theorem good_snoc {A : Int} {ns : List Choice} {x : Choice} (h : GoodN A ns) (hx : okChoice A ns x = true) : GoodN A (ns ++ [x]) := by
  intro i y hy
  rcases Nat.lt_or_ge i ns.length with h1 | h1
  · rw [List.getElem?_append_left h1] at hy
    rw [List.take_append_of_le_length (by omega)]
    exact h i y hy
  · rw [List.getElem?_append_right h1] at hy
    have hi : i = ns.length := by
      have := (List.getElem?_eq_some_iff.1 hy).1
      simp at this; omega
    subst hi
    simp at hy
    subst hy
    rw [List.take_left']
    · exact hx
    · rfl
structure Built (A : Nat) (table : List Bool) (ns : List Choice) (m a g : Nat) (r : Int × List Choice) : Prop where
  pre : ∃ t, r.2 = ns ++ t
  good : GoodN (A : Int) r.2
  place : Place r.2 a r.1
  val : ∀ v, evN r.2 v r.1 = if table.getD (idxF v m a g) false = true then -1 else -2
theorem bld_built (A : Nat) (hA : A ≤ 6) (table : List Bool) : ∀ (m a g : Nat) (ns : List Choice), a + m = A → GoodN (A : Int) ns → Built A table ns m a g (bld table m a g ns)
  | 0, a, g, ns, ham, hg => by
    refine ⟨⟨[], by simp [bld]⟩, hg, ?_, fun v => ?_⟩
    · simp -implicitDefEqProofs only [bld]
      refine ⟨by split <;> omega, by split <;> omega, fun x h0 _ => ?_⟩
      split at h0 <;> omega
    · simp -implicitDefEqProofs only [bld, idxF]
      rw [evN_neg (by split <;> omega)]
      rfl
  | m + 1, a, g, ns, ham, hg => by
    have b1 := bld_built A hA table m (a + 1) g ns (by omega) hg
    have b2 := bld_built A hA table m (a + 1) (g + 2 ^ a) (bld table m (a + 1) g ns).2 (by omega) b1.good
    simp -implicitDefEqProofs only [bld]
    generalize hlo : bld table m (a + 1) g ns = R1 at *
    generalize hhi : bld table m (a + 1) (g + 2 ^ a) R1.2 = R2 at *
    obtain ⟨lo, n1⟩ := R1
    obtain ⟨hi, n2⟩ := R2
    obtain ⟨t1, e1⟩ := b1.pre
    obtain ⟨t2, e2⟩ := b2.pre
    simp only at e1 e2
    have g2 := b2.good
    simp only at g2
    have hlp : Place n2 (a + 1) lo := by rw [e2]; exact b1.place.mono
    have hhp : Place n2 (a + 1) hi := b2.place
    have vlo : ∀ v, evN n2 v lo = if table.getD (idxF v m (a + 1) g) false = true then -1 else -2 := fun v => by
      have := b1.val v
      simp only at this
      rw [← this, e2]
      exact evN_prefix (by rw [← e2]; exact g2) v _ lo (Nat.le_refl _) b1.place.2.1
    have vhi : ∀ v, evN n2 v hi = if table.getD (idxF v m (a + 1) (g + 2 ^ a)) false = true then -1 else -2 := b2.val
    have hval : ∀ v, (if v.getD a false = true then evN n2 v hi else evN n2 v lo) = if table.getD (idxF v (m + 1) a g) false = true then -1 else -2 := fun v => by
      simp -implicitDefEqProofs only [idxF]
      split
      · exact vhi v
      · exact vlo v
    have weak : ∀ z, Place n2 (a + 1) z → Place n2 a z := fun z h => ⟨h.1, h.2.1, fun x h0 hx => by have := h.2.2 x h0 hx; omega⟩
    simp only
    unfold bldJoin
    by_cases heq : (lo == hi) = true
    · rw [if_pos heq]
      have : lo = hi := by simpa using heq
      subst this
      refine ⟨⟨t1 ++ t2, by simp only; rw [e2, e1, List.append_assoc]⟩, g2, weak _ hlp, fun v => ?_⟩
      rw [← hval v]
      simp only
      split <;> rfl
    · rw [if_neg heq]
      have hne : (lo == hi) = false := by simpa using heq
      by_cases hix : 0 ≤ indexBy (fun c => decide ((⟨(a : Nat), lo, hi⟩ : Choice) = c)) 0 n2
      · rw [if_pos hix]
        obtain ⟨i, x, h1, h2, h3⟩ := indexBy_at n2 0 hix
        have hx : x = ⟨(a : Nat), lo, hi⟩ := (of_decide_eq_true h3).symm
        subst hx
        rw [Nat.zero_add] at h1
        have hi' := (List.getElem?_eq_some_iff.1 h2).1
        refine ⟨⟨t1 ++ t2, by simp only; rw [e2, e1, List.append_assoc]⟩, g2, ?_, fun v => ?_⟩
        · simp -implicitDefEqProofs only [h1]
          refine ⟨by omega, by omega, fun y h0 hy => ?_⟩
          rw [Int.toNat_natCast, h2] at hy
          obtain rfl := Option.some.inj hy
          exact Int.le_refl _
        · simp -implicitDefEqProofs only [h1]
          rw [evN_at g2 h2, ← hval v]
          simp -implicitDefEqProofs only [Int.toNat_natCast]
          split <;> rfl
      · rw [if_neg hix]
        have hnone := indexBy_noneG n2 0 hix
        have hok : okChoice (A : Int) n2 ⟨(a : Nat), lo, hi⟩ = true := by
          unfold okChoice
          have hw : IntKind.i64.wrap ((A : Int) - 1) = (A : Int) - 1 := IntWalk.i64_in _ (by omega)
          have hany : (n2.any fun y => decide (y = (⟨(a : Nat), lo, hi⟩ : Choice))) = false := by
            rw [← hnone]
            congr 1
            funext y
            rw [Bool.eq_iff_iff]
            simp -implicitDefEqProofs only [decide_eq_true_eq]
            exact eq_comm
          rw [place_next hlp, place_next hhp, hany, hw]
          simp -implicitDefEqProofs only [inR, hne, Bool.not_false, Bool.and_true, Bool.and_self, Bool.and_eq_true, decide_eq_true_eq]
          omega
        have g3 := good_snoc g2 hok
        have hat : (n2 ++ [(⟨(a : Nat), lo, hi⟩ : Choice)])[n2.length]? = some ⟨(a : Nat), lo, hi⟩ := by simp
        refine ⟨⟨t1 ++ t2 ++ [⟨(a : Nat), lo, hi⟩], by simp only; rw [e2, e1]; simp⟩, g3, ?_, fun v => ?_⟩
        · simp only
          refine ⟨by omega, by simp -implicitDefEqProofs only [List.length_append, List.length_singleton]; omega, fun y h0 hy => ?_⟩
          rw [Int.toNat_natCast, hat] at hy
          obtain rfl := Option.some.inj hy
          exact Int.le_refl _
        · simp only
          rw [evN_at g3 hat, ← hval v]
          simp -implicitDefEqProofs only [Int.toNat_natCast]
          split
          · exact evN_prefix g3 v _ hi (Nat.le_refl _) hhp.2.1
          · exact evN_prefix g3 v _ lo (Nat.le_refl _) hlp.2.1
/-- The values' own number. -/
def numV : List Bool → Nat
  | [] => 0
  | b :: r => (if b = true then 1 else 0) + 2 * numV r
theorem numV_lt : ∀ v : List Bool, numV v < 2 ^ v.length
  | [] => by simp [numV]
  | b :: r => by
    have := numV_lt r
    simp -implicitDefEqProofs only [numV, List.length_cons, Nat.pow_succ]
    split <;> omega
theorem idxF_num (w : List Bool) : ∀ (m a g : Nat) (r : List Bool), r.length = m → w.drop a = r → idxF w m a g = g + 2 ^ a * numV r
  | 0, a, g, r, hr, hw => by
    have : r = [] := List.length_eq_zero_iff.1 hr
    subst this
    simp [idxF, numV]
  | m + 1, a, g, r, hr, hw => by
    cases r with
    | nil => simp at hr
    | cons b r =>
      have h1 : w.getD a false = b := by
        have := congrArg List.head? hw
        rw [List.head?_drop] at this
        rw [List.getD_eq_getElem?_getD, this]
        rfl
      have h2 : w.drop (a + 1) = r := by
        have := congrArg (List.drop 1) hw
        rw [List.drop_drop] at this
        simpa [Nat.add_comm] using this
      simp -implicitDefEqProofs only [idxF, h1, numV]
      rw [idxF_num w m (a + 1) (g + 2 ^ a) r (by simpa using hr) h2, idxF_num w m (a + 1) g r (by simpa using hr) h2]
      have e : 2 ^ (a + 1) * numV r = 2 ^ a * (2 * numV r) := by rw [Nat.pow_succ, Nat.mul_assoc]
      cases b
      · simp -implicitDefEqProofs only [Bool.false_eq_true, if_false, Nat.zero_add, e]
      · simp -implicitDefEqProofs only [if_true, e, Nat.mul_add, Nat.mul_one]; omega
theorem valsOf_num : ∀ (v : List Bool) (k : Nat), k < v.length → decide (numV v / 2 ^ k % 2 = 1) = v.getD k false
  | [], k, h => by simp at h
  | b :: r, 0, h => by
    simp -implicitDefEqProofs only [numV, Nat.pow_zero, Nat.div_one, List.getD_cons_zero]
    cases b
    · have : (0 + 2 * numV r) % 2 = 0 := by omega
      simp [this]
    · have : (1 + 2 * numV r) % 2 = 1 := by omega
      simp [this]
  | b :: r, k + 1, h => by
    have ih := valsOf_num r k (by simpa using h)
    have e : numV (b :: r) / 2 ^ (k + 1) = numV r / 2 ^ k := by
      rw [Nat.pow_succ, Nat.mul_comm, ← Nat.div_div_eq_div_mul]
      congr 1
      simp -implicitDefEqProofs only [numV]
      split <;> omega
    rw [e, ih]
    simp
/-- Values are those of their number. -/
theorem vals_self (v : List Bool) : valsOf v.length (numV v) = v := by
  unfold valsOf
  refine List.ext_getElem (by simp) fun k h1 h2 => ?_
  simp -implicitDefEqProofs only [List.getElem_map, List.getElem_range]
  rw [valsOf_num v k h2, List.getD_eq_getElem?_getD, List.getElem?_eq_getElem h2]
  rfl
end Go.Proofs.YtigfcbcnfppmcaaGreat.Flat
set_option linter.unusedVariables false
set_option linter.unusedSimpArgs false
set_option maxRecDepth 10000
namespace Go.Proofs.YtigfcbcnfppmcaaGreat.Flat
def isFor (r : Rule) (a o : Int) : Bool := ((r.action == -1) || (r.action == a)) && ((r.object == -1) || (r.object == o))
theorem r_impl_IsFor {fl : Bool} (k : Nat) (hk : 281474976710656 + 1 ≤ k) (x : Rule) (a o : Int) : run E noExt k 22 [x.enc fl, .int .i64 a, .int .i64 o] [] = some (.bool (isFor x a o), []) := by
  obtain ⟨k, rfl⟩ : ∃ j, k = j + 1 := ⟨k - 1, by omega⟩
  rw [run_succ rfl rfl, body_eq (nt := 27) (fn := Go.Proofs.Tryz.f22) (by kernel_rfl) rfl rfl rfl rfl rfl rfl rfl rfl]
  simp -implicitDefEqProofs only [QS, QN, ZRS, ↓ZDS, Go.Proofs.Tryz.f22, enc_Rule, ifEv_bool, gate_bool, gateP_bool, gateQ_bool, pick_bool, SN, evCutRow, Int.reduceToNat, id_eq, Int.reduceBEq, Int.reduceLE, Int.reduceLT, SS, one_ne2, num_ne2, TIS, MDS, AV.cells, AV.isCell, Value.cells, Nat.reduceAdd, Nat.reduceEqDiff, Nat.reduceLT, Nat.reduceLeDiff, Nat.reduceMul, Nat.reduceSub, reduceIte]
  repeat' (split <;> (rename_i h; (try simp -implicitDefEqProofs only [Bool.not_eq_true', Bool.not_eq_false', decide_eq_true_eq, decide_eq_false_iff_not] at h); (try simp -implicitDefEqProofs only [QS, QN, ZRS, ↓ZDS, *, enc_Rule, ifEv_bool, gate_bool, gateP_bool, gateQ_bool, pick_bool, SN, evCutRow, Int.reduceToNat, id_eq, Int.reduceBEq, Int.reduceLE, Int.reduceLT, SS, one_ne2, num_ne2, TIS, MDS, AV.cells, AV.isCell, Value.cells, Nat.reduceAdd, Nat.reduceEqDiff, Nat.reduceLT, Nat.reduceLeDiff, Nat.reduceMul, Nat.reduceSub, reduceIte])))
  all_goals simp -implicitDefEqProofs only [isFor, *, Bool.true_and, Bool.false_and, Bool.and_true, Bool.and_false, Bool.or_true, Bool.true_or, Bool.false_or]
def meet (r s : Rule) : Bool := (((r.action == s.action) || (r.action == -1)) || (s.action == -1)) && (((r.object == s.object) || (r.object == -1)) || (s.object == -1))
theorem r_impl_CountNodes {fl : Bool} (k : Nat) (hk : 281474976710656 + 1 ≤ k) (x : Compiled) : run E noExt k 27 [x.enc fl] [] = some (.int .i64 (x.diagram.nodes.length : Nat), []) := by
  obtain ⟨k, rfl⟩ : ∃ j, k = j + 1 := ⟨k - 1, by omega⟩
  rw [run_succ rfl rfl, body_eq (nt := 7) (fn := Go.Proofs.Tryz.f27) (by kernel_rfl) rfl rfl rfl rfl rfl rfl rfl rfl]
  simp -implicitDefEqProofs only [QS, QN, ZRS, ↓ZDS, Go.Proofs.Tryz.f27, enc_Compiled, ifEv_bool, gate_bool, gateP_bool, gateQ_bool, pick_bool, SN, evCutRow, Int.reduceToNat, id_eq, Int.reduceBEq, Int.reduceLE, Int.reduceLT, SS, one_ne2, num_ne2, TIS, MDS, AV.cells, AV.isCell, Value.cells, Nat.reduceAdd, Nat.reduceEqDiff, Nat.reduceLT, Nat.reduceLeDiff, Nat.reduceMul, Nat.reduceSub, reduceIte]
  repeat' (split <;> (rename_i h; (try simp -implicitDefEqProofs only [Bool.not_eq_true', Bool.not_eq_false', decide_eq_true_eq, decide_eq_false_iff_not] at h); (try simp -implicitDefEqProofs only [QS, QN, ZRS, ↓ZDS, *, enc_Compiled, ifEv_bool, gate_bool, gateP_bool, gateQ_bool, pick_bool, SN, evCutRow, Int.reduceToNat, id_eq, Int.reduceBEq, Int.reduceLE, Int.reduceLT, SS, one_ne2, num_ne2, TIS, MDS, AV.cells, AV.isCell, Value.cells, Nat.reduceAdd, Nat.reduceEqDiff, Nat.reduceLT, Nat.reduceLeDiff, Nat.reduceMul, Nat.reduceSub, reduceIte])))
end Go.Proofs.YtigfcbcnfppmcaaGreat.Flat
set_option linter.unusedVariables false
set_option linter.unusedSimpArgs false
set_option maxRecDepth 10000
namespace Go.Proofs.YtigfcbcnfppmcaaGreat.Flat
mutual
def Cond.eval (p : Cond → Bool) : Cond → Bool
  | ⟨o, a, b, s⟩ => if (o == 7) = true then !((Cond.evals p s).getD 0 false) else if (o == 8) = true then (Cond.evals p s).getD 0 false && (Cond.evals p s).getD 1 false
      else if (o == 9) = true then (Cond.evals p s).getD 0 false || (Cond.evals p s).getD 1 false else p ⟨o, a, b, s⟩
def Cond.evals (p : Cond → Bool) : List Cond → List Bool
  | [] => []
  | c :: r => c.eval p :: Cond.evals p r
end
theorem evals_map (p : Cond → Bool) (s : List Cond) : Cond.evals p s = s.map (Cond.eval p) := by
  induction s with
  | nil => simp [Cond.evals]
  | cons c r ih => simp [Cond.evals, ih]
theorem Cond.eval_eq (p : Cond → Bool) (c : Cond) : c.eval p = if (c.op == 7) = true then !((c.args.map (Cond.eval p)).getD 0 false) else if (c.op == 8) = true then (c.args.map (Cond.eval p)).getD 0 false && (c.args.map (Cond.eval p)).getD 1 false
      else if (c.op == 9) = true then (c.args.map (Cond.eval p)).getD 0 false || (c.args.map (Cond.eval p)).getD 1 false else p c := by
  cases c
  simp -implicitDefEqProofs only [Cond.eval, evals_map]
/-- A node that is right has the arguments that its operation asks for. -/
theorem valid_args {c : Cond} (h : c.valid = true) : (c.op = 7 → ∃ a, c.args = [a] ∧ a.valid = true) ∧ (c.op = 8 → ∃ a b, c.args = [a, b] ∧ a.valid = true ∧ b.valid = true) ∧ (c.op = 9 → ∃ a b, c.args = [a, b] ∧ a.valid = true ∧ b.valid = true) := by
  rw [c.valid_eq] at h
  simp -implicitDefEqProofs only [nodeOk, Bool.and_eq_true, beq_iff_eq, List.all_eq_true] at h
  obtain ⟨⟨⟨h1, _⟩, _⟩, h2⟩ := h
  have ar : ∀ n : Int, arity n = if (n == 7) = true then 1 else if (n == 8) = true then 2 else if (n == 9) = true then 2 else if inR n 1 6 = true then 0 else -1 := fun _ => rfl
  refine ⟨fun e => ?_, fun e => ?_, fun e => ?_⟩
  · rw [ar, e] at h1
    match hs : c.args with
    | [] => rw [hs] at h1; simp at h1
    | [a] => exact ⟨a, rfl, h2 a (by rw [hs]; simp)⟩
    | a :: b :: r => rw [hs] at h1; simp at h1; omega
  · rw [ar, e] at h1
    match hs : c.args with
    | [] => rw [hs] at h1; simp at h1
    | [a] => rw [hs] at h1; simp at h1
    | [a, b] => exact ⟨a, b, rfl, h2 a (by rw [hs]; simp), h2 b (by rw [hs]; simp)⟩
    | a :: b :: d :: r => rw [hs] at h1; simp at h1; omega
  · rw [ar, e] at h1
    match hs : c.args with
    | [] => rw [hs] at h1; simp at h1
    | [a] => rw [hs] at h1; simp at h1
    | [a, b] => exact ⟨a, b, rfl, h2 a (by rw [hs]; simp), h2 b (by rw [hs]; simp)⟩
    | a :: b :: d :: r => rw [hs] at h1; simp at h1; omega
noncomputable def leafIdx (atoms : List Cond) (x : Cond) : Int := indexBy (fun own => decide (own = x)) 0 atoms
noncomputable def leafVal (atoms : List Cond) (values : List Bool) (x : Cond) : Bool := decide (0 ≤ leafIdx atoms x) && (decide (leafIdx atoms x < values.length) && values.getD (leafIdx atoms x).toNat false)
theorem r_impl_evalWith0 {fl : Bool} (F : Nat) (caps : List AV) (hP : Plain caps) (p : Cond → Bool) (K0 : Nat) (hF : ∀ k, K0 ≤ k → ∀ c : Cond, c.w ≤ 1099511627776 → run E noExt k F ([c.enc fl] ++ caps) [] = some (.bool (p c), [])) (x : Cond) (hmdF : E.md F = [] := by rfl) :
    ∀ (k : Nat), K0 + 290271069732864 + 4 * x.w + 2 ≤ k → x.valid = true → x.w ≤ 1099511627776 → run E noExt k 33 [x.enc fl, .clo F caps] [] = some (.bool (x.eval p), []) := by
  induction x using Cond.induct with
  | h x ih =>
    intro k hk hv hx
    have c0 := hF (k - 1) (by omega) x hx
    rw [x.w_eq] at hk hx
    have c1 : ∀ c ∈ x.args, c.valid = true → run E noExt (k - 1) 33 [c.enc fl, .clo F caps] [] = some (.bool (c.eval p), []) := fun c hc hcv => ih c hc _ (by have := wl_mem (w := Cond.w) hc; omega) hcv (by have := wl_mem (w := Cond.w) hc; omega)
    clear ih
    obtain ⟨a7, a8, a9⟩ := valid_args hv
    rw [x.eval_eq]
    have hLd := hP.lend
    by_cases e7 : x.op = 7
    · have b7 : (x.op == 7) = true := by simp [e7]
      obtain ⟨a, ha, va⟩ := a7 e7
      have c2 := c1 a (by rw [ha]; simp) va
      clear c0 c1 hF
      obtain ⟨k, rfl⟩ : ∃ j, k = j + 1 := ⟨k - 1, by omega⟩
      rw [run_succ rfl rfl, body_eq (nt := 51) (fn := Go.Proofs.Tryz.f33) (by kernel_rfl) rfl rfl rfl rfl rfl rfl rfl rfl]
      simp -implicitDefEqProofs only [Nat.add_sub_cancel, enc_Cond] at c2
      simp -implicitDefEqProofs only [QS, QN, ZRS, ↓ZDS, Go.Proofs.Tryz.f33, hmdF, enc_Cond, b7, ha, c2, hLd, List.getD_cons_zero, ifEv_bool, gate_bool, gateP_bool, gateQ_bool, pick_bool, SN, evCutRow, Int.reduceToNat, id_eq, Int.reduceBEq, Int.reduceLE, Int.reduceLT, SS, one_ne2, num_ne2, TIS, MDS, AV.cells, AV.isCell, Value.cells, Nat.reduceAdd, Nat.reduceEqDiff, Nat.reduceLT, Nat.reduceLeDiff, Nat.reduceMul, Nat.reduceSub, reduceIte]
      repeat' (split <;> (rename_i h; (try simp -implicitDefEqProofs only [Bool.not_eq_true', Bool.not_eq_false', decide_eq_true_eq, decide_eq_false_iff_not] at h); (try simp -implicitDefEqProofs only [QS, QN, ZRS, ↓ZDS, *, hmdF, enc_Cond, b7, ha, c2, hLd, List.getD_cons_zero, ifEv_bool, gate_bool, gateP_bool, gateQ_bool, pick_bool, SN, evCutRow, Int.reduceToNat, id_eq, Int.reduceBEq, Int.reduceLE, Int.reduceLT, SS, one_ne2, num_ne2, TIS, MDS, AV.cells, AV.isCell, Value.cells, Nat.reduceAdd, Nat.reduceEqDiff, Nat.reduceLT, Nat.reduceLeDiff, Nat.reduceMul, Nat.reduceSub, reduceIte])))
    · have b7 : (x.op == 7) = false := by simp [e7]
      by_cases e8 : x.op = 8
      · have b8 : (x.op == 8) = true := by simp [e8]
        obtain ⟨a, b, ha, va, vb⟩ := a8 e8
        have c2 := c1 a (by rw [ha]; simp) va
        have c3 := c1 b (by rw [ha]; simp) vb
        clear c0 c1 hF
        obtain ⟨k, rfl⟩ : ∃ j, k = j + 1 := ⟨k - 1, by omega⟩
        rw [run_succ rfl rfl, body_eq (nt := 51) (fn := Go.Proofs.Tryz.f33) (by kernel_rfl) rfl rfl rfl rfl rfl rfl rfl rfl]
        simp -implicitDefEqProofs only [Nat.add_sub_cancel, enc_Cond] at c2 c3
        simp -implicitDefEqProofs only [QS, QN, ZRS, ↓ZDS, Go.Proofs.Tryz.f33, hmdF, enc_Cond, b7, b8, ha, c2, c3, hLd, List.getD_cons_zero, List.getD_cons_succ, ifEv_bool, gate_bool, gateP_bool, gateQ_bool, pick_bool, SN, evCutRow, Int.reduceToNat, id_eq, Int.reduceBEq, Int.reduceLE, Int.reduceLT, SS, one_ne2, num_ne2, TIS, MDS, AV.cells, AV.isCell, Value.cells, Nat.reduceAdd, Nat.reduceEqDiff, Nat.reduceLT, Nat.reduceLeDiff, Nat.reduceMul, Nat.reduceSub, reduceIte]
        repeat' (split <;> (rename_i h; (try simp -implicitDefEqProofs only [Bool.not_eq_true', Bool.not_eq_false', decide_eq_true_eq, decide_eq_false_iff_not] at h); (try simp -implicitDefEqProofs only [QS, QN, ZRS, ↓ZDS, *, hmdF, enc_Cond, b7, b8, ha, c2, c3, hLd, List.getD_cons_zero, List.getD_cons_succ, ifEv_bool, gate_bool, gateP_bool, gateQ_bool, pick_bool, SN, evCutRow, Int.reduceToNat, id_eq, Int.reduceBEq, Int.reduceLE, Int.reduceLT, SS, one_ne2, num_ne2, TIS, MDS, AV.cells, AV.isCell, Value.cells, Nat.reduceAdd, Nat.reduceEqDiff, Nat.reduceLT, Nat.reduceLeDiff, Nat.reduceMul, Nat.reduceSub, reduceIte])))
      · have b8 : (x.op == 8) = false := by simp [e8]
        by_cases e9 : x.op = 9
        · have b9 : (x.op == 9) = true := by simp [e9]
          obtain ⟨a, b, ha, va, vb⟩ := a9 e9
          have c2 := c1 a (by rw [ha]; simp) va
          have c3 := c1 b (by rw [ha]; simp) vb
          clear c0 c1 hF
          obtain ⟨k, rfl⟩ : ∃ j, k = j + 1 := ⟨k - 1, by omega⟩
          rw [run_succ rfl rfl, body_eq (nt := 51) (fn := Go.Proofs.Tryz.f33) (by kernel_rfl) rfl rfl rfl rfl rfl rfl rfl rfl]
          simp -implicitDefEqProofs only [Nat.add_sub_cancel, enc_Cond] at c2 c3
          simp -implicitDefEqProofs only [QS, QN, ZRS, ↓ZDS, Go.Proofs.Tryz.f33, hmdF, enc_Cond, b7, b8, b9, ha, c2, c3, hLd, List.getD_cons_zero, List.getD_cons_succ, ifEv_bool, gate_bool, gateP_bool, gateQ_bool, pick_bool, SN, evCutRow, Int.reduceToNat, id_eq, Int.reduceBEq, Int.reduceLE, Int.reduceLT, SS, one_ne2, num_ne2, TIS, MDS, AV.cells, AV.isCell, Value.cells, Nat.reduceAdd, Nat.reduceEqDiff, Nat.reduceLT, Nat.reduceLeDiff, Nat.reduceMul, Nat.reduceSub, reduceIte]
          repeat' (split <;> (rename_i h; (try simp -implicitDefEqProofs only [Bool.not_eq_true', Bool.not_eq_false', decide_eq_true_eq, decide_eq_false_iff_not] at h); (try simp -implicitDefEqProofs only [QS, QN, ZRS, ↓ZDS, *, hmdF, enc_Cond, b7, b8, b9, ha, c2, c3, hLd, List.getD_cons_zero, List.getD_cons_succ, ifEv_bool, gate_bool, gateP_bool, gateQ_bool, pick_bool, SN, evCutRow, Int.reduceToNat, id_eq, Int.reduceBEq, Int.reduceLE, Int.reduceLT, SS, one_ne2, num_ne2, TIS, MDS, AV.cells, AV.isCell, Value.cells, Nat.reduceAdd, Nat.reduceEqDiff, Nat.reduceLT, Nat.reduceLeDiff, Nat.reduceMul, Nat.reduceSub, reduceIte])))
        · have b9 : (x.op == 9) = false := by simp [e9]
          clear c1 hF
          obtain ⟨k, rfl⟩ : ∃ j, k = j + 1 := ⟨k - 1, by omega⟩
          rw [run_succ rfl rfl, body_eq (nt := 51) (fn := Go.Proofs.Tryz.f33) (by kernel_rfl) rfl rfl rfl rfl rfl rfl rfl rfl]
          simp -implicitDefEqProofs only [Nat.add_sub_cancel, enc_Cond, List.cons_append, List.nil_append] at c0
          simp -implicitDefEqProofs only [QS, QN, ZRS, ↓ZDS, Go.Proofs.Tryz.f33, hmdF, enc_Cond, b7, b8, b9, c0, hLd, ifEv_bool, gate_bool, gateP_bool, gateQ_bool, pick_bool, SN, evCutRow, Int.reduceToNat, id_eq, Int.reduceBEq, Int.reduceLE, Int.reduceLT, SS, one_ne2, num_ne2, TIS, MDS, AV.cells, AV.isCell, Value.cells, Nat.reduceAdd, Nat.reduceEqDiff, Nat.reduceLT, Nat.reduceLeDiff, Nat.reduceMul, Nat.reduceSub, reduceIte]
          repeat' (split <;> (rename_i h; (try simp -implicitDefEqProofs only [Bool.not_eq_true', Bool.not_eq_false', decide_eq_true_eq, decide_eq_false_iff_not] at h); (try simp -implicitDefEqProofs only [QS, QN, ZRS, ↓ZDS, *, hmdF, enc_Cond, b7, b8, b9, c0, hLd, ifEv_bool, gate_bool, gateP_bool, gateQ_bool, pick_bool, SN, evCutRow, Int.reduceToNat, id_eq, Int.reduceBEq, Int.reduceLE, Int.reduceLT, SS, one_ne2, num_ne2, TIS, MDS, AV.cells, AV.isCell, Value.cells, Nat.reduceAdd, Nat.reduceEqDiff, Nat.reduceLT, Nat.reduceLeDiff, Nat.reduceMul, Nat.reduceSub, reduceIte])))
theorem r_impl_EvalBy1 {fl f2 f3 : Bool} (k : Nat) (hk : 290271069732864 + 6 ≤ k) (s : List Cond) (v : List Bool) (hs0 : wl Cond.w s ≤ 1099511627776) (x : Cond) (hx : x.w ≤ 1099511627776) :
    run E noExt k 116 [x.enc fl, .cptr [.sl f2 (s.map (Cond.enc f2))], .cptr [.sl f3 (v.map AV.bool)]] [] = some (.bool ((x.op == 1) || leafVal s v x), []) := by
  have hs1 := Nat.le_trans (wl_length _ s) hs0
  have c1 := r_slices_IndexFunc_Cond (fl := f2) (k - 1) s (by omega) (by omega) 117 [.cptr [.int .i64 x.op, .int .i64 x.a, .int .i64 x.b, .sl fl (x.args.map (Cond.enc fl))]] (plain_of rfl) (fun own => decide (own = x)) (fun c hc => by
    have c0 := r_impl_EqualConds (fl := f2) (gl := fl) (k - 3) (by omega) c x (by have := wl_mem (w := Cond.w) hc; omega)
    rw [show k - 1 - 1 = (k - 3) + 1 by omega]
    rw [run_succ rfl rfl, body_eq (nt := 7) (fn := Go.Proofs.Tryz.f117) (by kernel_rfl) rfl rfl rfl rfl rfl rfl rfl rfl]
    simp -implicitDefEqProofs only [enc_Cond] at c0
    simp -implicitDefEqProofs only [QS, QN, ZRS, ↓ZDS, enc_Cond, Go.Proofs.Tryz.f117, c0, SN, evCutRow, Int.reduceToNat, id_eq, Int.reduceBEq, Int.reduceLE, Int.reduceLT, SS, one_ne2, num_ne2, TIS, MDS, AV.cells, AV.isCell, Value.cells, Nat.reduceAdd, Nat.reduceEqDiff, Nat.reduceLT, Nat.reduceLeDiff, Nat.reduceMul, Nat.reduceSub, reduceIte])
  obtain ⟨k, rfl⟩ : ∃ j, k = j + 1 := ⟨k - 1, by omega⟩
  rw [run_succ rfl rfl, body_eq (nt := 28) (fn := Go.Proofs.Tryz.f116) (by kernel_rfl) rfl rfl rfl rfl rfl rfl rfl rfl]
  simp -implicitDefEqProofs only [Nat.add_sub_cancel] at c1
  unfold leafVal leafIdx
  generalize indexBy (fun own => decide (own = x)) 0 s = i at c1 ⊢
  by_cases hv : 0 ≤ i ∧ i < (v.length : Nat)
  · have hvx : v[i.toNat]? = some (v.getD i.toNat false) := by
      rw [List.getD_eq_getElem?_getD, List.getElem?_eq_getElem (by omega)]; rfl
    have h1 := hv.1
    have h2 := hv.2
    simp -implicitDefEqProofs only [QS, QN, ZRS, ↓ZDS, Go.Proofs.Tryz.f116, enc_Cond, c1, hvx, h1, h2, ifEv_bool, gate_bool, gateP_bool, gateQ_bool, pick_bool, SN, evCutRow, Int.reduceToNat, id_eq, Int.reduceBEq, Int.reduceLE, Int.reduceLT, SS, one_ne2, num_ne2, TIS, MDS, AV.cells, AV.isCell, Value.cells, Nat.reduceAdd, Nat.reduceEqDiff, Nat.reduceLT, Nat.reduceLeDiff, Nat.reduceMul, Nat.reduceSub, reduceIte]
    repeat' (split <;> (rename_i h; (try simp -implicitDefEqProofs only [Bool.not_eq_true', Bool.not_eq_false', decide_eq_true_eq, decide_eq_false_iff_not] at h); (try simp -implicitDefEqProofs only [QS, QN, ZRS, ↓ZDS, *, enc_Cond, c1, hvx, h1, h2, ifEv_bool, gate_bool, gateP_bool, gateQ_bool, pick_bool, SN, evCutRow, Int.reduceToNat, id_eq, Int.reduceBEq, Int.reduceLE, Int.reduceLT, SS, one_ne2, num_ne2, TIS, MDS, AV.cells, AV.isCell, Value.cells, Nat.reduceAdd, Nat.reduceEqDiff, Nat.reduceLT, Nat.reduceLeDiff, Nat.reduceMul, Nat.reduceSub, reduceIte])))
  ·
    simp -implicitDefEqProofs only [QS, QN, ZRS, ↓ZDS, Go.Proofs.Tryz.f116, enc_Cond, c1, ifEv_bool, gate_bool, gateP_bool, gateQ_bool, pick_bool, SN, evCutRow, Int.reduceToNat, id_eq, Int.reduceBEq, Int.reduceLE, Int.reduceLT, SS, one_ne2, num_ne2, TIS, MDS, AV.cells, AV.isCell, Value.cells, Nat.reduceAdd, Nat.reduceEqDiff, Nat.reduceLT, Nat.reduceLeDiff, Nat.reduceMul, Nat.reduceSub, reduceIte]
    repeat' (split <;> (rename_i h; (try simp -implicitDefEqProofs only [Bool.not_eq_true', Bool.not_eq_false', decide_eq_true_eq, decide_eq_false_iff_not] at h); (try simp -implicitDefEqProofs only [QS, QN, ZRS, ↓ZDS, *, enc_Cond, c1, ifEv_bool, gate_bool, gateP_bool, gateQ_bool, pick_bool, SN, evCutRow, Int.reduceToNat, id_eq, Int.reduceBEq, Int.reduceLE, Int.reduceLT, SS, one_ne2, num_ne2, TIS, MDS, AV.cells, AV.isCell, Value.cells, Nat.reduceAdd, Nat.reduceEqDiff, Nat.reduceLT, Nat.reduceLeDiff, Nat.reduceMul, Nat.reduceSub, reduceIte])))
    all_goals first | done | (exfalso; omega) | skip
theorem r_impl_EvalBy {fl f2 f3 : Bool} (k : Nat) (hk : 884940186000000 + 7 ≤ k) (x : Cond) (s : List Cond) (v : List Bool) (hx : x.w ≤ 1099511627776) (hs0 : wl Cond.w s ≤ 1099511627776) :
    run E noExt k 93 [x.enc fl, .sl f2 (s.map (Cond.enc f2)), .sl f3 (v.map AV.bool)] [] = some (.bool (isCond x && x.eval fun c => (c.op == 1) || leafVal s v c), []) := by
  have c1 := r_impl_IsCond (fl := fl) (k - 1) (by omega) x hx
  have c2 := r_impl_evalWith0 (fl := fl) 116 [.cptr [.sl f2 (s.map (Cond.enc f2))], .cptr [.sl f3 (v.map AV.bool)]] (plain_of rfl) (fun c => (c.op == 1) || leafVal s v c) (290271069732864 + 6) (fun k hk c hc => r_impl_EvalBy1 k hk s v hs0 c hc) x rfl (k - 1) (by omega)
  obtain ⟨k, rfl⟩ : ∃ j, k = j + 1 := ⟨k - 1, by omega⟩
  rw [run_succ rfl rfl, body_eq (nt := 14) (fn := Go.Proofs.Tryz.f93) (by kernel_rfl) rfl rfl rfl rfl rfl rfl rfl rfl]
  simp -implicitDefEqProofs only [Nat.add_sub_cancel, enc_Cond] at c1 c2
  cases h : isCond x
  · simp -implicitDefEqProofs only [h] at c1
    simp -implicitDefEqProofs only [QS, QN, ZRS, ↓ZDS, Go.Proofs.Tryz.f93, enc_Cond, c1, ifEv_bool, gate_bool, gateP_bool, gateQ_bool, pick_bool, SN, evCutRow, Int.reduceToNat, id_eq, Int.reduceBEq, Int.reduceLE, Int.reduceLT, SS, one_ne2, num_ne2, TIS, MDS, AV.cells, AV.isCell, Value.cells, Nat.reduceAdd, Nat.reduceEqDiff, Nat.reduceLT, Nat.reduceLeDiff, Nat.reduceMul, Nat.reduceSub, reduceIte]
    repeat' (split <;> (rename_i h; (try simp -implicitDefEqProofs only [Bool.not_eq_true', Bool.not_eq_false', decide_eq_true_eq, decide_eq_false_iff_not] at h); (try simp -implicitDefEqProofs only [QS, QN, ZRS, ↓ZDS, *, enc_Cond, c1, ifEv_bool, gate_bool, gateP_bool, gateQ_bool, pick_bool, SN, evCutRow, Int.reduceToNat, id_eq, Int.reduceBEq, Int.reduceLE, Int.reduceLT, SS, one_ne2, num_ne2, TIS, MDS, AV.cells, AV.isCell, Value.cells, Nat.reduceAdd, Nat.reduceEqDiff, Nat.reduceLT, Nat.reduceLeDiff, Nat.reduceMul, Nat.reduceSub, reduceIte])))
  · have hv : x.valid = true := by
      unfold isCond at h
      simp -implicitDefEqProofs only [Bool.and_eq_true] at h
      exact h.2
    have c3 := c2 hv hx
    simp -implicitDefEqProofs only [h] at c1
    simp -implicitDefEqProofs only [QS, QN, ZRS, ↓ZDS, Go.Proofs.Tryz.f93, enc_Cond, c1, c3, ifEv_bool, gate_bool, gateP_bool, gateQ_bool, pick_bool, SN, evCutRow, Int.reduceToNat, id_eq, Int.reduceBEq, Int.reduceLE, Int.reduceLT, SS, one_ne2, num_ne2, TIS, MDS, AV.cells, AV.isCell, Value.cells, Nat.reduceAdd, Nat.reduceEqDiff, Nat.reduceLT, Nat.reduceLeDiff, Nat.reduceMul, Nat.reduceSub, reduceIte]
    repeat' (split <;> (rename_i h; (try simp -implicitDefEqProofs only [Bool.not_eq_true', Bool.not_eq_false', decide_eq_true_eq, decide_eq_false_iff_not] at h); (try simp -implicitDefEqProofs only [QS, QN, ZRS, ↓ZDS, *, enc_Cond, c1, c3, ifEv_bool, gate_bool, gateP_bool, gateQ_bool, pick_bool, SN, evCutRow, Int.reduceToNat, id_eq, Int.reduceBEq, Int.reduceLE, Int.reduceLT, SS, one_ne2, num_ne2, TIS, MDS, AV.cells, AV.isCell, Value.cells, Nat.reduceAdd, Nat.reduceEqDiff, Nat.reduceLT, Nat.reduceLeDiff, Nat.reduceMul, Nat.reduceSub, reduceIte])))
end Go.Proofs.YtigfcbcnfppmcaaGreat.Flat
