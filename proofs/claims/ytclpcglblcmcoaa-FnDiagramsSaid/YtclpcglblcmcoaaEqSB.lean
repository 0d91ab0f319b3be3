/-
Diagrams built from tables: the least ones. Plain lists alone.
-/
import Derived.Test.YtclpcglblcmcoaaEqTA
import Derived.Test.YtclpcglblcmcoaaEqFA
set_option linter.unusedVariables false
set_option linter.unusedSimpArgs false
namespace Go.Proofs.Ytclpcglblcmcoaa.Flat
structure NodeOK (A : Int) (ns : List Choice) (i : Nat) (x : Choice) : Prop where
  atom0 : 0 ≤ x.atom
  atomA : A ≤ 6 → x.atom < A
  low : -2 ≤ x.low ∧ x.low < i
  high : -2 ≤ x.high ∧ x.high < i
  ne : x.low ≠ x.high
  lowA : ∀ y, 0 ≤ x.low → ns[x.low.toNat]? = some y → x.atom < y.atom
  highA : ∀ y, 0 ≤ x.high → ns[x.high.toNat]? = some y → x.atom < y.atom
  new : ∀ j, j < i → ns[j]? ≠ some x
theorem node_ok {A : Int} {ns : List Choice} (hA : 0 ≤ A) (h : GoodN A ns) {i : Nat} {x : Choice} (hx : ns[i]? = some x) : NodeOK A ns i x := by
  have h0 := h i x hx
  have hi := (List.getElem?_eq_some_iff.1 hx).1
  have hc := choice_ok h0
  rw [List.length_take] at hc
  simp -implicitDefEqProofs only [okChoice, okNext, inR, Bool.and_eq_true, Bool.or_eq_true, decide_eq_true_eq, Bool.not_eq_true', beq_eq_false_iff_ne] at h0
  obtain ⟨⟨⟨⟨h1, h1'⟩, h2⟩, ⟨⟨_, h3⟩, ⟨_, h4⟩⟩⟩, h5⟩ := h0
  have at_ : ∀ (z : Int) (y : Choice), 0 ≤ z → z < i → ns[z.toNat]? = some y → (ns.take i).getD z.toNat default = y := by
    intro z y h6 h7 h8
    rw [List.getD_eq_getElem?_getD, List.getElem?_take, if_pos (by omega), h8]
    rfl
  refine ⟨h1, fun h6 => ?_, by omega, by omega, h2, fun y h6 h7 => ?_, fun y h6 h7 => ?_, fun j hj he => ?_⟩
  · rw [IntWalk.i64_in _ (by omega)] at h1'
    omega
  · rcases h3 with h3 | h3
    · omega
    · rwa [at_ _ y h6 (by omega) h7] at h3
  · rcases h4 with h4 | h4
    · omega
    · rwa [at_ _ y h6 (by omega) h7] at h4
  · have : (ns.take i).any (fun y => decide (y = x)) = true := List.any_eq_true.2 ⟨x, List.mem_iff_getElem?.2 ⟨j, by rw [List.getElem?_take, if_pos hj]; exact he⟩, by simp⟩
    rw [this] at h5
    simp at h5
section
variable {A : Nat} {ns : List Choice}
theorem node_at {z : Int} (h0 : 0 ≤ z) (h1 : z < ns.length) : ∃ x, ns[z.toNat]? = some x := ⟨_, List.getElem?_eq_getElem (by omega)⟩
theorem ev_node (hg : GoodN (A : Int) ns) (v : List Bool) {z : Int} (h0 : 0 ≤ z) {x : Choice} (hx : ns[z.toNat]? = some x) : evN ns v z = evN ns v (if v.getD x.atom.toNat false = true then x.high else x.low) := by
  have := evN_at hg (v := v) hx
  rwa [show ((z.toNat : Nat) : Int) = z by omega] at this
theorem ev_dep (hA : A ≤ 6) (hg : GoodN (A : Int) ns) {v w : List Bool} : ∀ (n a : Nat) (z : Int), (z + 1).toNat ≤ n → Place ns a z → (∀ j, a ≤ j → j < A → v.getD j false = w.getD j false) → evN ns v z = evN ns w z
  | 0, a, z, hn, hp, h => by rw [evN_neg (by omega), evN_neg (by omega)]
  | n + 1, a, z, hn, hp, h => by
    by_cases h0 : 0 ≤ z
    · obtain ⟨x, hx⟩ := node_at h0 hp.2.1
      have hk := node_ok (by omega) hg hx
      have ha := hp.2.2 x h0 hx
      have := hk.atomA (by omega)
      have := hk.atom0
      rw [ev_node hg v h0 hx, ev_node hg w h0 hx, h x.atom.toNat (by omega) (by omega)]
      have hl := hk.low
      have hh := hk.high
      have hz := hp.2.1
      split
      · exact ev_dep hA hg n (x.atom.toNat + 1) _ (by omega) ⟨hk.high.1, by omega, fun y h1 h2 => by have := hk.highA y h1 h2; omega⟩ fun j h1 h2 => h j (by omega) h2
      · exact ev_dep hA hg n (x.atom.toNat + 1) _ (by omega) ⟨hk.low.1, by omega, fun y h1 h2 => by have := hk.lowA y h1 h2; omega⟩ fun j h1 h2 => h j (by omega) h2
    · rw [evN_neg h0, evN_neg h0]
theorem ev_vals (hg : GoodN (A : Int) ns) (v : List Bool) : ∀ (n : Nat) (z : Int), (z + 1).toNat ≤ n → -2 ≤ z → z < ns.length → evN ns v z = -1 ∨ evN ns v z = -2
  | 0, z, hn, h2, h3 => by rw [evN_neg (by omega)]; omega
  | n + 1, z, hn, h2, h3 => by
    by_cases h0 : 0 ≤ z
    · obtain ⟨x, hx⟩ := node_at h0 h3
      have hk := node_ok (by omega) hg hx
      have hl := hk.low
      have hh := hk.high
      rw [ev_node hg v h0 hx]
      split
      · exact ev_vals hg v n _ (by omega) hk.high.1 (by omega)
      · exact ev_vals hg v n _ (by omega) hk.low.1 (by omega)
    · rw [evN_neg h0]; omega
def setV (v : List Bool) (k : Nat) (b : Bool) : List Bool := (List.range (v.length + k + 1)).map fun j => if j = k then b else v.getD j false
theorem setV_get (v : List Bool) (k : Nat) (b : Bool) (j : Nat) : (setV v k b).getD j false = if j = k then b else v.getD j false := by
  unfold setV
  rw [List.getD_eq_getElem?_getD, List.getElem?_map]
  by_cases h : j < v.length + k + 1
  · rw [List.getElem?_range h]
    rfl
  · rw [List.getElem?_eq_none (by simp; omega), if_neg (by omega), List.getD_eq_getElem?_getD, List.getElem?_eq_none (by omega)]
    rfl
theorem low_place (hg : GoodN (A : Int) ns) {i : Nat} {x : Choice} (hx : ns[i]? = some x) : Place ns (x.atom.toNat + 1) x.low ∧ Place ns (x.atom.toNat + 1) x.high := by
  have hk := node_ok (by omega) hg hx
  have hi := (List.getElem?_eq_some_iff.1 hx).1
  have h0 := hk.atom0
  have hl := hk.low
  have hh := hk.high
  exact ⟨⟨hk.low.1, by omega, fun y h1 h2 => by have := hk.lowA y h1 h2; omega⟩, ⟨hk.high.1, by omega, fun y h1 h2 => by have := hk.highA y h1 h2; omega⟩⟩
theorem ev_ways (hA : A ≤ 6) (hg : GoodN (A : Int) ns) {z : Int} (h0 : 0 ≤ z) {x : Choice} (hx : ns[z.toNat]? = some x) (v : List Bool) :
    evN ns (setV v x.atom.toNat false) z = evN ns v x.low ∧ evN ns (setV v x.atom.toNat true) z = evN ns v x.high := by
  have hp := low_place hg hx
  constructor
  · rw [ev_node hg _ h0 hx, setV_get, if_pos rfl, if_neg (by simp)]
    exact ev_dep hA hg _ _ _ (Nat.le_refl _) hp.1 fun j h1 _ => by rw [setV_get, if_neg (by omega)]
  · rw [ev_node hg _ h0 hx, setV_get, if_pos rfl, if_pos rfl]
    exact ev_dep hA hg _ _ _ (Nat.le_refl _) hp.2 fun j h1 _ => by rw [setV_get, if_neg (by omega)]
theorem canon (hA : A ≤ 6) (hg : GoodN (A : Int) ns) : ∀ (n : Nat) (y z : Int), y < n → z < n → -2 ≤ y → -2 ≤ z → y < ns.length → z < ns.length → (∀ v, evN ns v y = evN ns v z) → y = z
  | 0, y, z, hy, hz, hy2, hz2, hyl, hzl, h => by
    have := h []
    rwa [evN_neg (by omega), evN_neg (by omega)] at this
  | n + 1, y, z, hy, hz, hy2, hz2, hyl, hzl, h => by
    -- a node whose atom is ahead of all that the other asks for
    have away : ∀ (y z : Int), y < ((n + 1 : Nat) : Int) → 0 ≤ y → y < ns.length → (∀ v, evN ns v y = evN ns v z) → (∀ x, ns[y.toNat]? = some x → Place ns (x.atom.toNat + 1) z) → False := by
      intro y z hy h0 hyl h hpz
      obtain ⟨x, hx⟩ := node_at h0 hyl
      have hk := node_ok (by omega) hg hx
      have hp := hpz x hx
      have hl := hk.low
      have hh := hk.high
      refine hk.ne (canon hA hg n x.low x.high (by omega) (by omega) hk.low.1 hk.high.1 (by omega) (by omega) fun v => ?_)
      have hw := ev_ways hA hg h0 hx v
      rw [← hw.1, ← hw.2, h, h]
      exact ev_dep hA hg _ _ _ (Nat.le_refl _) hp fun j h1 _ => by rw [setV_get, setV_get, if_neg (by omega), if_neg (by omega)]
    by_cases hy0 : 0 ≤ y
    · obtain ⟨x, hx⟩ := node_at hy0 hyl
      have hkx := node_ok (by omega) hg hx
      by_cases hz0 : 0 ≤ z
      · obtain ⟨t, ht⟩ := node_at hz0 hzl
        have hkt := node_ok (by omega) hg ht
        have hx0 := hkx.atom0
        have ht0 := hkt.atom0
        rcases Int.lt_trichotomy x.atom t.atom with hlt | heq | hgt
        · exact (away y z hy hy0 hyl h fun x' hx' => by
            rw [hx] at hx'
            obtain rfl := Option.some.inj hx'
            exact ⟨hz2, hzl, fun u h1 h2 => by rw [ht] at h2; obtain rfl := Option.some.inj h2; omega⟩).elim
        · have hl1 := hkx.low
          have hh1 := hkx.high
          have hl2 := hkt.low
          have hh2 := hkt.high
          have el : x.low = t.low := canon hA hg n _ _ (by omega) (by omega) hkx.low.1 hkt.low.1 (by omega) (by omega) fun v => by
            rw [← (ev_ways hA hg hy0 hx v).1, ← (ev_ways hA hg hz0 ht v).1, heq]
            exact h _
          have eh : x.high = t.high := canon hA hg n _ _ (by omega) (by omega) hkx.high.1 hkt.high.1 (by omega) (by omega) fun v => by
            rw [← (ev_ways hA hg hy0 hx v).2, ← (ev_ways hA hg hz0 ht v).2, heq]
            exact h _
          have ext : x = t := by
            cases x; cases t
            simp only at heq el eh
            rw [heq, el, eh]
          subst ext
          rcases Nat.lt_trichotomy y.toNat z.toNat with h1 | h1 | h1
          · exact absurd hx (hkt.new _ h1)
          · omega
          · exact absurd ht (hkx.new _ h1)
        · exact (away z y hz hz0 hzl (fun v => (h v).symm) fun t' ht' => by
            rw [ht] at ht'
            obtain rfl := Option.some.inj ht'
            exact ⟨hy2, hyl, fun u h1 h2 => by rw [hx] at h2; obtain rfl := Option.some.inj h2; omega⟩).elim
      · exact (away y z hy hy0 hyl h fun x' hx' => ⟨hz2, hzl, fun u h1 h2 => absurd h1 hz0⟩).elim
    · by_cases hz0 : 0 ≤ z
      · exact (away z y hz hz0 hzl (fun v => (h v).symm) fun x' hx' => ⟨hy2, hyl, fun u h1 h2 => absurd h1 hy0⟩).elim
      · have := h []
        rwa [evN_neg hy0, evN_neg hz0] at this
theorem descend (hA : A ≤ 6) (hg : GoodN (A : Int) ns) (w : List Bool) (k : Nat) : ∀ (n : Nat) (z : Int), (z + 1).toNat ≤ n → -2 ≤ z → z < ns.length →
    ∃ z', Place ns k z' ∧ ∀ v : List Bool, (∀ j, j < k → v.getD j false = w.getD j false) → evN ns v z = evN ns v z'
  | 0, z, hn, h2, h3 => ⟨z, ⟨h2, h3, fun x h0 _ => by omega⟩, fun v _ => rfl⟩
  | n + 1, z, hn, h2, h3 => by
    by_cases h0 : 0 ≤ z
    · obtain ⟨x, hx⟩ := node_at h0 h3
      have hk := node_ok (by omega) hg hx
      by_cases ha : (k : Int) ≤ x.atom
      · exact ⟨z, ⟨h2, h3, fun y _ hy => by rw [hx] at hy; obtain rfl := Option.some.inj hy; exact ha⟩, fun v _ => rfl⟩
      · have hl := hk.low
        have hh := hk.high
        have := hk.atom0
        cases hw : w.getD x.atom.toNat false
        · obtain ⟨z', h4, h5⟩ := descend hA hg w k n x.low (by omega) hk.low.1 (by omega)
          refine ⟨z', h4, fun v hv => ?_⟩
          rw [ev_node hg v h0 hx, hv x.atom.toNat (by omega), hw, if_neg (by simp)]
          exact h5 v hv
        · obtain ⟨z', h4, h5⟩ := descend hA hg w k n x.high (by omega) hk.high.1 (by omega)
          refine ⟨z', h4, fun v hv => ?_⟩
          rw [ev_node hg v h0 hx, hv x.atom.toNat (by omega), hw, if_pos rfl]
          exact h5 v hv
    · exact ⟨z, ⟨h2, h3, fun x h1 _ => absurd h1 h0⟩, fun v _ => rfl⟩
end
def bit (n j : Nat) : Bool := decide (n / 2 ^ j % 2 = 1)
theorem bit_add {g k j : Nat} (h : j < k) : bit (g + 2 ^ k) j = bit g j := by
  unfold bit
  have e : 2 ^ k = 2 ^ j * (2 * 2 ^ (k - j - 1)) := by
    have h1 : k = j + ((k - j - 1) + 1) := by omega
    have h2 : 2 ^ k = 2 ^ (j + ((k - j - 1) + 1)) := congrArg (2 ^ ·) h1
    rw [h2, Nat.pow_add, Nat.pow_succ, Nat.mul_comm (2 ^ (k - j - 1)) 2]
  have hp : 0 < 2 ^ j := Nat.two_pow_pos j
  rw [e, Nat.add_mul_div_left _ _ hp, Nat.add_mul_mod_self_left]
theorem bit_top {g k : Nat} (h : g < 2 ^ k) : bit g k = false ∧ bit (g + 2 ^ k) k = true := by
  unfold bit
  have hp : 0 < 2 ^ k := Nat.two_pow_pos k
  constructor
  · rw [Nat.div_eq_of_lt h]; simp
  · rw [Nat.add_div_right _ hp, Nat.div_eq_of_lt h]; simp
theorem idx_bits (v : List Bool) : ∀ (m k g : Nat), g < 2 ^ k → idxF v m k g < 2 ^ (k + m) ∧ (∀ j, j < k → bit (idxF v m k g) j = bit g j) ∧ ∀ j, k ≤ j → j < k + m → bit (idxF v m k g) j = v.getD j false
  | 0, k, g, hg => ⟨by simpa [idxF] using hg, fun j _ => rfl, fun j h1 h2 => by omega⟩
  | m + 1, k, g, hg => by
    have hk : 2 ^ (k + 1) = 2 ^ k + 2 ^ k := by rw [Nat.pow_succ]; omega
    have ht := bit_top hg
    simp -implicitDefEqProofs only [idxF]
    split
    · rename_i hv
      have ih := idx_bits v m (k + 1) (g + 2 ^ k) (by omega)
      refine ⟨by rw [show k + (m + 1) = k + 1 + m by omega]; exact ih.1, fun j hj => (ih.2.1 j (by omega)).trans (bit_add hj), fun j h1 h2 => ?_⟩
      by_cases e : j = k
      · subst e
        rw [ih.2.1 j (by omega), ht.2, hv]
      · exact ih.2.2 j (by omega) (by omega)
    · rename_i hv
      have ih := idx_bits v m (k + 1) g (by omega)
      refine ⟨by rw [show k + (m + 1) = k + 1 + m by omega]; exact ih.1, fun j hj => ih.2.1 j (by omega), fun j h1 h2 => ?_⟩
      by_cases e : j = k
      · subst e
        rw [ih.2.1 j (by omega), ht.1]
        simpa using hv
      · exact ih.2.2 j (by omega) (by omega)
theorem vals_get {n i j : Nat} : (valsOf n i).getD j false = if j < n then bit i j else false := by
  unfold valsOf
  rw [List.getD_eq_getElem?_getD, List.getElem?_map]
  by_cases h : j < n
  · rw [List.getElem?_range h, if_pos h]; rfl
  · rw [List.getElem?_eq_none (by simpa using h), if_neg h]; rfl
def Rep (A : Nat) (table : List Bool) (ns : List Choice) : Prop :=
  ∀ (i : Nat) (x : Choice), ns[i]? = some x → ∃ m k g : Nat, k + m = A ∧ g < 2 ^ k ∧ ∀ v, evN ns v (i : Int) = if table.getD (idxF v m k g) false = true then -1 else -2
theorem bld_rep (A : Nat) (hA : A ≤ 6) (table : List Bool) : ∀ (m a g : Nat) (ns : List Choice), a + m = A → g < 2 ^ a → GoodN (A : Int) ns → Rep A table ns → Rep A table (bld table m a g ns).2
  | 0, a, g, ns, ham, hga, hg, hr => hr
  | m + 1, a, g, ns, ham, hga, hg, hr => by
    have hk : 2 ^ (a + 1) = 2 ^ a + 2 ^ a := by rw [Nat.pow_succ]; omega
    have b1 := bld_built A hA table m (a + 1) g ns (by omega) hg
    have r1 := bld_rep A hA table m (a + 1) g ns (by omega) (by omega) hg hr
    have b2 := bld_built A hA table m (a + 1) (g + 2 ^ a) (bld table m (a + 1) g ns).2 (by omega) b1.good
    have r2 := bld_rep A hA table m (a + 1) (g + 2 ^ a) (bld table m (a + 1) g ns).2 (by omega) (by omega) b1.good r1
    have b3 := bld_built A hA table (m + 1) a g ns ham hg
    simp -implicitDefEqProofs only [bld] at b3 ⊢
    generalize bld table m (a + 1) g ns = R1 at *
    generalize bld table m (a + 1) (g + 2 ^ a) R1.2 = R2 at *
    obtain ⟨lo, n1⟩ := R1
    obtain ⟨hi, n2⟩ := R2
    simp only at *
    unfold bldJoin at b3 ⊢
    by_cases heq : (lo == hi) = true
    · rw [if_pos heq]; exact r2
    · rw [if_neg heq] at b3 ⊢
      by_cases hix : 0 ≤ indexBy (fun c => decide ((⟨(a : Nat), lo, hi⟩ : Choice) = c)) 0 n2
      · rw [if_pos hix]; exact r2
      · rw [if_neg hix] at b3 ⊢
        have g3 := b3.good
        have v3 := b3.val
        simp only at g3 v3 ⊢
        intro i x hx
        rcases Nat.lt_or_ge i n2.length with h1 | h1
        · rw [List.getElem?_append_left h1] at hx
          obtain ⟨m', k', g', h2, h3, h4⟩ := r2 i x hx
          exact ⟨m', k', g', h2, h3, fun v => by rw [evN_prefix g3 v _ (i : Int) (Nat.le_refl _) (by omega)]; exact h4 v⟩
        · have hi' := (List.getElem?_eq_some_iff.1 hx).1
          simp at hi'
          have : i = n2.length := by omega
          subst this
          exact ⟨m + 1, a, g, ham, hga, v3⟩
theorem inj_le : ∀ (n m : Nat) (f : Nat → Nat), (∀ i, i < n → f i < m) → (∀ i j, i < n → j < n → f i = f j → i = j) → n ≤ m
  | 0, m, f, _, _ => Nat.zero_le _
  | n + 1, m, f, h1, h2 => by
    have ht := h1 n (by omega)
    have := inj_le n (m - 1) (fun i => if f i = m - 1 then f n else f i) (fun i hi => by
      have h3 := h1 i (by omega)
      have h4 : f i ≠ f n := fun e => by have := h2 i n (by omega) (by omega) e; omega
      show (if f i = m - 1 then f n else f i) < m - 1
      split <;> omega) (fun i j hi hj e => by
      have e : (if f i = m - 1 then f n else f i) = (if f j = m - 1 then f n else f j) := e
      have h3 : f i ≠ f n := fun e => by have := h2 i n (by omega) (by omega) e; omega
      have h4 : f j ≠ f n := fun e => by have := h2 j n (by omega) (by omega) e; omega
      refine h2 i j (by omega) (by omega) ?_
      split at e <;> split at e
      · omega
      · exact absurd e.symm h4
      · exact absurd e h3
      · exact e)
    omega
theorem ans_ev (d : Diagram) (v : List Bool) : ansF d v (d.nodes.length + 1) d.root = evN d.nodes v d.root := ansF_D d v _ _
theorem diagram_facts {d : Diagram} (h : isDiagram d = true) : ∃ A : Nat, d.atoms = (A : Int) ∧ A ≤ 6 ∧ GoodN (A : Int) d.nodes ∧ -2 ≤ d.root ∧ d.root < d.nodes.length := by
  obtain ⟨h1, h2⟩ := isDiagram_iff.1 h
  simp -implicitDefEqProofs only [inR, Bool.and_eq_true, decide_eq_true_eq] at h1
  refine ⟨d.atoms.toNat, by omega, by omega, ?_, by omega, by omega⟩
  rwa [show ((d.atoms.toNat : Nat) : Int) = d.atoms by omega]
theorem table_len {d : Diagram} {A : Nat} (h : isDiagram d = true) (hA : d.atoms = (A : Int)) : (tableOf d).length = 2 ^ A := by
  unfold tableOf tableN
  rw [if_pos h, hA, Int.toNat_natCast]
  simp
theorem table_get {d : Diagram} {A : Nat} (h : isDiagram d = true) (hA : d.atoms = (A : Int)) {j : Nat} (hj : j < 2 ^ A) : (tableOf d).getD j false = answerOf d (valsOf A j) := by
  unfold tableOf tableN
  rw [if_pos h, hA, Int.toNat_natCast, List.getD_eq_getElem?_getD, List.getElem?_map, List.getElem?_range hj]
  rfl
theorem answer_ev {d : Diagram} (h : isDiagram d = true) (v : List Bool) : answerOf d v = (evN d.nodes v d.root == -1) := by
  unfold answerOf
  rw [h, Bool.true_and, ans_ev]
theorem answer_norm {d : Diagram} {A : Nat} (h : isDiagram d = true) (hA : d.atoms = (A : Int)) (v : List Bool) : answerOf d v = answerOf d ((List.range A).map fun j => v.getD j false) := by
  obtain ⟨B, hB, hB6, hg, hr1, hr2⟩ := diagram_facts h
  have : A = B := by omega
  subst this
  rw [answer_ev h, answer_ev h]
  congr 1
  refine ev_dep hB6 hg _ 0 _ (Nat.le_refl _) ⟨hr1, hr2, fun x h0 hx => by have := (node_ok (by omega) hg hx).atom0; omega⟩ fun j _ hj => ?_
  rw [List.getD_eq_getElem?_getD (l := (List.range A).map _), List.getElem?_map, List.getElem?_range hj]
  rfl
theorem table_table {n : Nat} (hn : n ≤ 6) {table : List Bool} (ht : table.length = 2 ^ n) : tableOf (fromTable (n : Nat) table) = table := by
  have ha := table_answers hn ht
  have hat : (fromTable (n : Nat) table).atoms = (n : Int) := by
    unfold fromTable
    rw [if_pos (by unfold fromOk inR; rw [Int.toNat_natCast, ht]; simp; omega)]
    rfl
  refine List.ext_getElem (by rw [table_len ha.1 hat, ht]) fun j h1 h2 => ?_
  rw [ht] at h2
  have h3 := table_get ha.1 hat h2
  rw [ha.2 _ (len_vals _ _), vals_num h2] at h3
  rw [List.getD_eq_getElem?_getD, List.getD_eq_getElem?_getD, List.getElem?_eq_getElem h1, List.getElem?_eq_getElem (by rw [ht]; exact h2)] at h3
  exact h3
theorem build_same {d : Diagram} (h : isDiagram d = true) (v : List Bool) : answerOf (fromTable d.atoms (tableOf d)) v = answerOf d v := by
  obtain ⟨A, hA, hA6, hg, hr1, hr2⟩ := diagram_facts h
  have hl := table_len h hA
  have ha := table_answers hA6 hl
  have hat : (fromTable (A : Nat) (tableOf d)).atoms = (A : Int) := by
    unfold fromTable
    rw [if_pos (by unfold fromOk inR; rw [Int.toNat_natCast, hl]; simp; omega)]
    rfl
  rw [hA, answer_norm ha.1 hat v, answer_norm h hA v, ha.2 _ (by simp)]
  have hv : ((List.range A).map fun j => v.getD j false).length = A := by simp
  have hlt : numV ((List.range A).map fun j => v.getD j false) < 2 ^ A := by have := numV_lt ((List.range A).map fun j => v.getD j false); rwa [hv] at this
  rw [table_get h hA hlt]
  have := vals_self ((List.range A).map fun j => v.getD j false)
  rw [hv] at this
  rw [this]
theorem build_least {d : Diagram} (h : isDiagram d = true) : (fromTable d.atoms (tableOf d)).nodes.length ≤ d.nodes.length := by
  obtain ⟨A, hA, hA6, hg, hr1, hr2⟩ := diagram_facts h
  have hl := table_len h hA
  have hft : fromTable (A : Nat) (tableOf d) = fromT (A : Nat) (tableOf d) := by
    unfold fromTable
    rw [if_pos (by unfold fromOk inR; rw [Int.toNat_natCast, hl]; simp; omega)]
  rw [hA, hft]
  have hb := bld_built A hA6 (tableOf d) A 0 0 [] (by omega) good_nil
  have hrep := bld_rep A hA6 (tableOf d) A 0 0 [] (by omega) (by simp) good_nil (fun i x hx => by simp at hx)
  have hnodes : (fromT (A : Nat) (tableOf d)).nodes = (bld (tableOf d) A 0 0 []).2 := by unfold fromT; simp -implicitDefEqProofs only [Int.toNat_natCast]
  rw [hnodes]
  have hgb := hb.good
  generalize (bld (tableOf d) A 0 0 []).2 = bs at *
  -- each node has a place in d
  have key : ∀ i, i < bs.length → ∃ j, j < d.nodes.length ∧ ∀ v, evN bs v (i : Int) = evN d.nodes v (j : Int) := by
    intro i hi
    obtain ⟨m, k, g, hkm, hgk, hval⟩ := hrep i _ (List.getElem?_eq_getElem hi)
    obtain ⟨z, hz, hzv⟩ := descend hA6 hg (valsOf A g) k _ d.root (Nat.le_refl _) hr1 hr2
    have hall : ∀ v, evN bs v (i : Int) = evN d.nodes v z := by
      intro v
      have hb3 := idx_bits v m k g hgk
      rw [hkm] at hb3
      rw [hval v, table_get h hA hb3.1, answer_ev h]
      have e1 : evN d.nodes (valsOf A (idxF v m k g)) d.root = evN d.nodes v z := by
        rw [hzv _ fun j hj => by rw [vals_get, vals_get, if_pos (by omega), if_pos (by omega)]; exact hb3.2.1 j hj]
        refine ev_dep hA6 hg _ k _ (Nat.le_refl _) hz fun j h1 h2 => ?_
        rw [vals_get, if_pos h2]
        exact hb3.2.2 j h1 h2
      rw [e1]
      rcases ev_vals hg v _ z (Nat.le_refl _) hz.1 hz.2.1 with h5 | h5 <;> rw [h5] <;> rfl
    by_cases h0 : 0 ≤ z
    · refine ⟨z.toNat, by have := hz.2.1; omega, fun v => ?_⟩
      rw [show ((z.toNat : Nat) : Int) = z by omega]
      exact hall v
    · have hz1 := hz.1
      have := canon hA6 hgb (bs.length + 1) (i : Int) z (by omega) (by omega) (by omega) hz.1 (by omega) (by omega) fun v => by rw [hall v, evN_neg h0, evN_neg h0]
      omega
  refine inj_le _ _ (fun i => if hi : i < bs.length then (key i hi).choose else 0) (fun i hi => ?_) (fun i j hi hj e => ?_)
  · simp -implicitDefEqProofs only [dif_pos hi]
    exact (key i hi).choose_spec.1
  · simp -implicitDefEqProofs only [dif_pos hi, dif_pos hj] at e
    have := canon hA6 hgb (bs.length + 1) (i : Int) (j : Int) (by omega) (by omega) (by omega) (by omega) (by omega) (by omega) fun v => by
      rw [(key i hi).choose_spec.2 v, (key j hj).choose_spec.2 v, e]
    omega
theorem flip_same {d : Diagram} (h : isDiagram d = true) {i : Nat} (hi : ∀ x ∈ d.nodes, x.atom ≠ (i : Int)) {v w : List Bool} (hvw : ∀ j, j ≠ i → v.getD j false = w.getD j false) : answerOf d v = answerOf d w := by
  obtain ⟨A, hA, hA6, hg, hr1, hr2⟩ := diagram_facts h
  rw [answer_ev h, answer_ev h]
  congr 1
  have key : ∀ (n : Nat) (z : Int), (z + 1).toNat ≤ n → -2 ≤ z → z < d.nodes.length → evN d.nodes v z = evN d.nodes w z := by
    intro n
    induction n with
    | zero => intro z h1 h2 h3; rw [evN_neg (by omega), evN_neg (by omega)]
    | succ n ih =>
      intro z h1 h2 h3
      by_cases h0 : 0 ≤ z
      · obtain ⟨x, hx⟩ := node_at h0 h3
        have hk := node_ok (by omega) hg hx
        have hl := hk.low
        have hh := hk.high
        have h0a := hk.atom0
        have hne := hi x (List.mem_iff_getElem?.2 ⟨_, hx⟩)
        rw [ev_node hg v h0 hx, ev_node hg w h0 hx, hvw x.atom.toNat (by omega)]
        split
        · exact ih _ (by omega) hk.high.1 (by omega)
        · exact ih _ (by omega) hk.low.1 (by omega)
      · rw [evN_neg h0, evN_neg h0]
  exact key _ _ (Nat.le_refl _) hr1 hr2
set_option maxRecDepth 10000
theorem r_laws_sameBools {fl gl : Bool} (k : Nat) (hk : 281474976710656 + 2 ≤ k) (s t : List Bool) (hs : s.length ≤ 140737488355328) : run E noExt k 8 [.sl fl (s.map AV.bool), .sl gl (t.map AV.bool)] [] = some (.bool (decide (s = t)), []) := by
  obtain ⟨k, rfl⟩ : ∃ j, k = j + 1 := ⟨k - 1, by omega⟩
  rw [run_succ rfl rfl, body_eq (nt := 26) (fn := Go.Proofs.Try.f8) (by kernel_rfl) rfl rfl rfl rfl rfl rfl rfl rfl]
  simp -implicitDefEqProofs only [W1, ↓D1, ↓DC, Go.Proofs.Try.f8, ifEv_bool, bne, Int.reduceToNat, id_eq, Int.reduceBEq, Int.reduceLE, Int.reduceLT, Nat.reduceAdd, Nat.reduceEqDiff, Nat.reduceLT, Nat.reduceLeDiff, Nat.reduceMul, Nat.reduceSub, reduceIte]
  split
  · rename_i h
    have h' : s ≠ t := by
      rintro rfl
      simp at h
    simp -implicitDefEqProofs only [↓DC, QS, ZRS, ↓ZDS, h, h', SS, one_ne2, num_ne2, TIS, MDS, Nat.reduceAdd, Nat.reduceEqDiff, Nat.reduceLT, Nat.reduceLeDiff, Nat.reduceMul, Nat.reduceSub, reduceIte]
  · rename_i h
    have hl : s.length = t.length := by
      have h2 : (s.length : Int) = t.length := by simpa using h
      omega
    simp -implicitDefEqProofs only [↓DC, QS, ZRS, ↓ZDS, h, SS, one_ne2, num_ne2, TIS, MDS, Nat.reduceAdd, Nat.reduceEqDiff, Nat.reduceLT, Nat.reduceLeDiff, Nat.reduceMul, Nat.reduceSub, reduceIte]
    rw [ev_loop]
    refine Eq.trans (loop_list (Q := fun g x => thenEnd E.P [] _ 0 (thenEv E _ _ _ _ _ (outOf 0 x)) = some (.bool g, [])) (s.zip t) eqStep (fun _ => true)
      (fun i _ => { sl := [(0, .sl fl (s.map AV.bool)), (1, .sl gl (t.map AV.bool)), (5, .int .i64 (i : Nat))], bx := [], nx := 0, nt := 26 }) (fun _ _ => True) () ?_ ?_ (by simp; omega) trivial ?_) ?_
    · intro b _
      have hz : (s.zip t).length = s.length := by simp; omega
      simp -implicitDefEqProofs only [W2, ↓D2, ↓DC, QX, hz, leaf_some, isNormal, Int.reduceToNat, id_eq, Int.reduceBEq, Int.reduceLE, Int.reduceLT, Nat.reduceAdd, Nat.reduceEqDiff, Nat.reduceLT, Nat.reduceLeDiff, Nat.reduceMul, Nat.reduceSub, reduceIte]
      repeat' (split <;> (rename_i h; (try simp -implicitDefEqProofs only [Bool.not_eq_true', Bool.not_eq_false', decide_eq_true_eq, decide_eq_false_iff_not] at h); (try simp -implicitDefEqProofs only [W2, ↓D2, ↓DC, QX, *, hz, leaf_some, isNormal, Int.reduceToNat, id_eq, Int.reduceBEq, Int.reduceLE, Int.reduceLT, Nat.reduceAdd, Nat.reduceEqDiff, Nat.reduceLT, Nat.reduceLeDiff, Nat.reduceMul, Nat.reduceSub, reduceIte])))
    · intro pre p r b hs' _
      have hx := (zip_at hl hs').1
      have hy := (zip_at hl hs').2.1
      have e1 := (zip_at hl hs').2.2.1
      have hlt := (at_row (s := s) (pre := pre.map Prod.fst) e1 hs).2.2.1
      have hw1 := (at_row (s := s) (pre := pre.map Prod.fst) e1 hs).2.2.2.1
      have hlt2 : ((pre.length : Nat) : Int) < ((t.length : Nat) : Int) := by simp -implicitDefEqProofs only [List.length_map] at hlt; omega
      simp -implicitDefEqProofs only [List.length_map] at hlt hw1
      clear e1 hs'
      obtain ⟨p1, p2⟩ := p
      simp only at hx hy
      cases p1 <;> cases p2
      · have hst : eqStep pre.length (false, false) b = .inr () := if_pos (by simp)
        simp -implicitDefEqProofs only [W2, ↓D2, ↓DC, QX, hx, hy, hlt, hlt2, hw1, hst, bne, plan_8_6, keep_8_4, leaf_some, isNormal, Int.reduceToNat, id_eq, Int.reduceBEq, Int.reduceLE, Int.reduceLT, Nat.reduceAdd, Nat.reduceEqDiff, Nat.reduceLT, Nat.reduceLeDiff, Nat.reduceMul, Nat.reduceSub, reduceIte]
        repeat' (split <;> (rename_i h; (try simp -implicitDefEqProofs only [Bool.not_eq_true', Bool.not_eq_false', decide_eq_true_eq, decide_eq_false_iff_not] at h); (try simp -implicitDefEqProofs only [W2, ↓D2, ↓DC, QX, *, hx, hy, hlt, hlt2, hw1, hst, bne, plan_8_6, keep_8_4, leaf_some, isNormal, Int.reduceToNat, id_eq, Int.reduceBEq, Int.reduceLE, Int.reduceLT, Nat.reduceAdd, Nat.reduceEqDiff, Nat.reduceLT, Nat.reduceLeDiff, Nat.reduceMul, Nat.reduceSub, reduceIte])))
      · have hst : eqStep pre.length (false, true) b = .inl false := if_neg (by simp)
        simp -implicitDefEqProofs only [W2, ↓D2, ↓DC, QX, hx, hy, hlt, hlt2, hw1, hst, bne, plan_8_6, keep_8_4, leaf_some, isNormal, Int.reduceToNat, id_eq, Int.reduceBEq, Int.reduceLE, Int.reduceLT, Nat.reduceAdd, Nat.reduceEqDiff, Nat.reduceLT, Nat.reduceLeDiff, Nat.reduceMul, Nat.reduceSub, reduceIte]
        repeat' (split <;> (rename_i h; (try simp -implicitDefEqProofs only [Bool.not_eq_true', Bool.not_eq_false', decide_eq_true_eq, decide_eq_false_iff_not] at h); (try simp -implicitDefEqProofs only [W2, ↓D2, ↓DC, QX, *, hx, hy, hlt, hlt2, hw1, hst, bne, plan_8_6, keep_8_4, leaf_some, isNormal, Int.reduceToNat, id_eq, Int.reduceBEq, Int.reduceLE, Int.reduceLT, Nat.reduceAdd, Nat.reduceEqDiff, Nat.reduceLT, Nat.reduceLeDiff, Nat.reduceMul, Nat.reduceSub, reduceIte])))
      · have hst : eqStep pre.length (true, false) b = .inl false := if_neg (by simp)
        simp -implicitDefEqProofs only [W2, ↓D2, ↓DC, QX, hx, hy, hlt, hlt2, hw1, hst, bne, plan_8_6, keep_8_4, leaf_some, isNormal, Int.reduceToNat, id_eq, Int.reduceBEq, Int.reduceLE, Int.reduceLT, Nat.reduceAdd, Nat.reduceEqDiff, Nat.reduceLT, Nat.reduceLeDiff, Nat.reduceMul, Nat.reduceSub, reduceIte]
        repeat' (split <;> (rename_i h; (try simp -implicitDefEqProofs only [Bool.not_eq_true', Bool.not_eq_false', decide_eq_true_eq, decide_eq_false_iff_not] at h); (try simp -implicitDefEqProofs only [W2, ↓D2, ↓DC, QX, *, hx, hy, hlt, hlt2, hw1, hst, bne, plan_8_6, keep_8_4, leaf_some, isNormal, Int.reduceToNat, id_eq, Int.reduceBEq, Int.reduceLE, Int.reduceLT, Nat.reduceAdd, Nat.reduceEqDiff, Nat.reduceLT, Nat.reduceLeDiff, Nat.reduceMul, Nat.reduceSub, reduceIte])))
      · have hst : eqStep pre.length (true, true) b = .inr () := if_pos (by simp)
        simp -implicitDefEqProofs only [W2, ↓D2, ↓DC, QX, hx, hy, hlt, hlt2, hw1, hst, bne, plan_8_6, keep_8_4, leaf_some, isNormal, Int.reduceToNat, id_eq, Int.reduceBEq, Int.reduceLE, Int.reduceLT, Nat.reduceAdd, Nat.reduceEqDiff, Nat.reduceLT, Nat.reduceLeDiff, Nat.reduceMul, Nat.reduceSub, reduceIte]
        repeat' (split <;> (rename_i h; (try simp -implicitDefEqProofs only [Bool.not_eq_true', Bool.not_eq_false', decide_eq_true_eq, decide_eq_false_iff_not] at h); (try simp -implicitDefEqProofs only [W2, ↓D2, ↓DC, QX, *, hx, hy, hlt, hlt2, hw1, hst, bne, plan_8_6, keep_8_4, leaf_some, isNormal, Int.reduceToNat, id_eq, Int.reduceBEq, Int.reduceLE, Int.reduceLT, Nat.reduceAdd, Nat.reduceEqDiff, Nat.reduceLT, Nat.reduceLeDiff, Nat.reduceMul, Nat.reduceSub, reduceIte])))
    · simp -implicitDefEqProofs only [firstRegion]; rw [keep_8_4]; simp -implicitDefEqProofs only [W2, ↓D2, ↓DC, Int.reduceToNat, id_eq, Int.reduceBEq, Int.reduceLE, Int.reduceLT, Nat.reduceAdd, Nat.reduceEqDiff, Nat.reduceLT, Nat.reduceLeDiff, Nat.reduceMul, Nat.reduceSub, reduceIte]; first | done | rfl
    · rw [eqLoop _ _ _ hl]
theorem r_laws_contains {fl : Bool} (k : Nat) (hk : 281474976710656 + 1 ≤ k) (s : List Int) (hs : s.length ≤ 140737488355328) (x : Int) : run E noExt k 14 [.sl fl (s.map (AV.int .i64)), .int .i64 x] [] = some (.bool (s.any (fun c => c == x)), []) := by
  obtain ⟨k, rfl⟩ : ∃ j, k = j + 1 := ⟨k - 1, by omega⟩
  rw [run_succ rfl rfl, body_eq (nt := 18) (fn := Go.Proofs.Try.f14) (by kernel_rfl) rfl rfl rfl rfl rfl rfl rfl rfl]
  simp -implicitDefEqProofs only [W1, ↓D1, ↓DC, Go.Proofs.Try.f14, Int.reduceToNat, id_eq, Int.reduceBEq, Int.reduceLE, Int.reduceLT, Nat.reduceAdd, Nat.reduceEqDiff, Nat.reduceLT, Nat.reduceLeDiff, Nat.reduceMul, Nat.reduceSub, reduceIte]
  rw [ev_loop]
  refine Eq.trans (loop_list (Q := fun g x => thenEnd E.P [] _ 0 (thenEv E _ _ _ _ _ (outOf 0 x)) = some (.bool g, [])) (s) (hasStep x) (fun _ => false)
    (fun i b => { sl := [(0, .sl fl (s.map (AV.int .i64))), (1, .int .i64 x), (5, .int .i64 (i : Nat))], bx := [], nx := 0, nt := 18 }) (fun _ _ => True) (()) ?_ ?_ (by first | omega | (simp; omega)) (trivial) ?_) ?_
  · intro b hb
    simp -implicitDefEqProofs only [W2, ↓D2, ↓DC, QX, leaf_some, isNormal, Int.reduceToNat, id_eq, Int.reduceBEq, Int.reduceLE, Int.reduceLT, Nat.reduceAdd, Nat.reduceEqDiff, Nat.reduceLT, Nat.reduceLeDiff, Nat.reduceMul, Nat.reduceSub, reduceIte]
    repeat' (split <;> (rename_i h; (try simp -implicitDefEqProofs only [Bool.not_eq_true', Bool.not_eq_false', decide_eq_true_eq, decide_eq_false_iff_not] at h); (try simp -implicitDefEqProofs only [W2, ↓D2, ↓DC, QX, *, leaf_some, isNormal, Int.reduceToNat, id_eq, Int.reduceBEq, Int.reduceLE, Int.reduceLT, Nat.reduceAdd, Nat.reduceEqDiff, Nat.reduceLT, Nat.reduceLeDiff, Nat.reduceMul, Nat.reduceSub, reduceIte])))
  · intro pre c r b hs' hb
    have hx := (at_row hs' hs).1; have hc := (at_row hs' hs).2.1; have hlt := (at_row hs' hs).2.2.1; have hw1 := (at_row hs' hs).2.2.2.1; have hl9 := (at_row hs' hs).2.2.2.2
    clear hs'
    simp -implicitDefEqProofs only [W2, ↓D2, ↓DC, QX, hx, hlt, hw1, hasStep, keep_14_2, leaf_some, isNormal, Int.reduceToNat, id_eq, Int.reduceBEq, Int.reduceLE, Int.reduceLT, Nat.reduceAdd, Nat.reduceEqDiff, Nat.reduceLT, Nat.reduceLeDiff, Nat.reduceMul, Nat.reduceSub, reduceIte]
    repeat' (split <;> (rename_i h; (try simp -implicitDefEqProofs only [Bool.not_eq_true', Bool.not_eq_false', decide_eq_true_eq, decide_eq_false_iff_not] at h); (try simp -implicitDefEqProofs only [W2, ↓D2, ↓DC, QX, *, hx, hlt, hw1, hasStep, keep_14_2, leaf_some, isNormal, Int.reduceToNat, id_eq, Int.reduceBEq, Int.reduceLE, Int.reduceLT, Nat.reduceAdd, Nat.reduceEqDiff, Nat.reduceLT, Nat.reduceLeDiff, Nat.reduceMul, Nat.reduceSub, reduceIte])))
  · simp -implicitDefEqProofs only [firstRegion]; rw [keep_14_2]; simp -implicitDefEqProofs only [W2, ↓D2, ↓DC, Int.reduceToNat, id_eq, Int.reduceBEq, Int.reduceLE, Int.reduceLT, Nat.reduceAdd, Nat.reduceEqDiff, Nat.reduceLT, Nat.reduceLeDiff, Nat.reduceMul, Nat.reduceSub, reduceIte]; first | done | rfl
  · rw [hasLoop]
end Go.Proofs.Ytclpcglblcmcoaa.Flat
