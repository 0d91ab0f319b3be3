/-
What is handed to a law: any value of its type, told.
-/
import Derived.Test.YtgckhjcfcandmaaFlatBD
import Derived.DataReads
import Derived.ChangeArms
import Derived.ChangeOld
import Derived.WideShapes
import Derived.OpenShut
set_option linter.unusedVariables false
set_option linter.unusedSimpArgs false
namespace Go.Proofs.Ytgckhjcfcandmaa.Flat
open Go.ChangeShapes Go.WideShapes

def Each (R : TypeId → AV → Prop) : List TypeId → List AV → Prop
  | [], [] => True
  | t :: ts, a :: as => R t a ∧ Each R ts as
  | _, _ => False
/-- The values of a type, as they are told: scalars, rows, structs. -/
def Typed (P : Program) : Nat → TypeId → AV → Prop
  | 0, _, _ => False
  | n + 1, t, a => match P.underlying t with
    | some .bool => ∃ b, a = .bool b
    | some (.int k) => ∃ z, a = .int k z ∧ (Lit.int k z).wf = true
    | some .string => ∃ s, a = .str s ∧ s.size ≤ reachBytes
    | some (.slice e) => ∃ xs, a = .sl false xs ∧ (∀ x ∈ xs, Typed P n e x) ∧ xs.length * P.bytesOf e ≤ reachBytes ∧ xs.length ≤ maxLen
    | some (.struct fs) => ∃ as : List AV, a = .agg (as.flatMap AV.cells) ∧ Each (Typed P n) (fs.toList.map (·.type)) as
    | _ => False

theorem typed_int {P : Program} {n : Nat} {t : TypeId} {k : IntKind} {a : AV} (h : P.underlying t = some (.int k)) : Typed P (n + 1) t a ↔ ∃ z, a = .int k z ∧ (Lit.int k z).wf = true := by simp only [Typed, h]
theorem typed_bool {P : Program} {n : Nat} {t : TypeId} {a : AV} (h : P.underlying t = some .bool) : Typed P (n + 1) t a ↔ ∃ b, a = .bool b := by simp only [Typed, h]
theorem typed_str {P : Program} {n : Nat} {t : TypeId} {a : AV} (h : P.underlying t = some .string) : Typed P (n + 1) t a ↔ ∃ s, a = .str s ∧ s.size ≤ reachBytes := by simp only [Typed, h]
theorem typed_slice {P : Program} {n : Nat} {t e : TypeId} {a : AV} (h : P.underlying t = some (.slice e)) : Typed P (n + 1) t a ↔ ∃ xs, a = .sl false xs ∧ (∀ x ∈ xs, Typed P n e x) ∧ xs.length * P.bytesOf e ≤ reachBytes ∧ xs.length ≤ maxLen := by simp only [Typed, h]
theorem typed_struct {P : Program} {n : Nat} {t : TypeId} {fs : Array Field} {a : AV} (h : P.underlying t = some (.struct fs)) : Typed P (n + 1) t a ↔ ∃ bs : List AV, a = .agg (bs.flatMap AV.cells) ∧ Each (Typed P n) (fs.toList.map (·.type)) bs := by simp only [Typed, h]
theorem each_cons {R : TypeId → AV → Prop} {t : TypeId} {ts : List TypeId} {bs : List AV} : Each R (t :: ts) bs ↔ ∃ a as, bs = a :: as ∧ R t a ∧ Each R ts as := by
  cases bs with
  | nil => simp [Each]
  | cons a as => exact ⟨fun h => ⟨a, as, rfl, h⟩, fun ⟨_, _, e, h⟩ => by obtain ⟨rfl, rfl⟩ := List.cons.inj e; exact h⟩
theorem each_nil {R : TypeId → AV → Prop} {bs : List AV} : Each R [] bs ↔ bs = [] := by
  cases bs <;> simp [Each]
/-- Elements told one by one are a list of them. -/
theorem rows_of {α : Type} {f : α → AV} {Q : α → Prop} : ∀ {xs : List AV}, (∀ x ∈ xs, ∃ y, x = f y ∧ Q y) → ∃ ys : List α, xs = ys.map f ∧ ∀ y ∈ ys, Q y
  | [], _ => ⟨[], rfl, fun y hy => by simp at hy⟩
  | x :: xs, h => by
    obtain ⟨y, rfl, hq⟩ := h x (by simp)
    obtain ⟨ys, rfl, hqs⟩ := rows_of (xs := xs) fun z hz => h z (by simp [hz])
    refine ⟨y :: ys, rfl, fun z hz => ?_⟩
    rcases List.mem_cons.1 hz with rfl | hz
    · exact hq
    · exact hqs z hz

def okFields (P : Program) (ok : TypeId → Bool) : Nat → List Field → Option Nat
  | off, [] => some off
  | off, f :: r => if f.offset = off ∧ ok f.type = true then okFields P ok (off + P.cellsOf f.type) r else none
/-- Types that we can tell. -/
def okTy (P : Program) : Nat → TypeId → Bool
  | 0, _ => false
  | n + 1, t => match P.underlying t with
    | some .bool => P.cellsOf t == 1
    | some (.int _) => P.cellsOf t == 1
    | some .string => P.cellsOf t == 1
    | some (.slice e) => P.cellsOf t == 1 && okTy P n e && decide (0 < P.cellsOf e)
    | some (.struct fs) => okFields P (okTy P n) 0 fs.toList == some (P.cellsOf t)
    | _ => false

/-- All memory as it is when a law is called. -/
def old (w : World) : Cells := fun fl b _ => fl = false ∧ b < w.heap.size

section
variable {H : Type} {enc : TypeId × Value → H} {P : Program} {w : World} {spare : Nat → Bool} {held : Bool}

theorem trod_pos {m : Nat} {t : TypeId} {cs : List Value} {x : DataW H × List MemPlace} (h : DataW.trod enc P w 0 spare held m t cs = some x) : ∃ k, m = k + 1 := by
  cases m with
  | zero => simp [DataW.trod] at h
  | succ k => exact ⟨k, rfl⟩

theorem trod_bool' {m : Nat} {t : TypeId} {cs : List Value} {x : DataW H × List MemPlace} (ht : P.underlying t = some .bool) (h : DataW.trod enc P w 0 spare held m t cs = some x) : ∃ b, cs = [.bool b] := by
  obtain ⟨k, rfl⟩ := trod_pos h
  unfold DataW.trod at h
  rw [ht] at h
  split at h <;> simp_all
theorem trod_str' {m : Nat} {t : TypeId} {cs : List Value} {x : DataW H × List MemPlace} (ht : P.underlying t = some .string) (h : DataW.trod enc P w 0 spare held m t cs = some x) : ∃ s, cs = [.string s] ∧ x.1 = .lit (.string s.data.toList) := by
  obtain ⟨k, rfl⟩ := trod_pos h
  unfold DataW.trod at h
  rw [ht] at h
  split at h <;> simp_all
  rw [← h.2]

/-- What is told of some cells. -/
def Tells (w : World) (a : AV) (cs : List Value) : Prop := a.cells.length = cs.length ∧ (∀ y ∈ a.cells, y.isCell = true) ∧ ∀ j (h : j < a.cells.length), RO w (old w) a.cells[j] (cs.getD j undef)

theorem tells_one {a : AV} {v : Value} (hc : a.cells = [a]) (hi : a.isCell = true) (hr : RO w (old w) a v) : Tells w a [v] := by
  refine ⟨by rw [hc]; rfl, fun y hy => ?_, fun j hj => ?_⟩
  · rw [hc] at hy
    obtain rfl : y = a := by simpa using hy
    exact hi
  · have hj0 : j = 0 := by rw [hc] at hj; simpa using hj
    subst hj0
    have : a.cells[0] = a := by simp only [hc]; rfl
    rw [this]
    exact hr

theorem weights_all {e : TypeId} : ∀ {ds : List (DataW H)}, (DataW.weightsAll P e ds).all (· ≤ reachBytes) = true → ∀ d ∈ ds, (d.weights P e).all (· ≤ reachBytes) = true
  | [], _, d, hd => by simp at hd
  | c :: r, h, d, hd => by
    simp only [DataW.weightsAll, List.all_append, Bool.and_eq_true] at h
    rcases List.mem_cons.1 hd with rfl | hd
    · exact h.1
    · exact weights_all h.2 d hd
theorem weights_each : ∀ {ts : List TypeId} {ds : List (DataW H)}, (DataW.weightsEach P ts ds).all (· ≤ reachBytes) = true → ∀ (i : Nat) (t : TypeId) (d : DataW H), ts[i]? = some t → ds[i]? = some d → (d.weights P t).all (· ≤ reachBytes) = true
  | [], _, _, i, t, d, ht, _ => by simp at ht
  | _ :: _, [], _, i, t, d, _, hd => by simp at hd
  | t0 :: ts, d0 :: ds, h, i, t, d, ht, hd => by
    simp only [DataW.weightsEach, List.all_append, Bool.and_eq_true] at h
    cases i with
    | zero =>
      simp only [List.getElem?_cons_zero, Option.some.injEq] at ht hd
      subst ht; subst hd
      exact h.1
    | succ i => exact weights_each h.2 i t d (by simpa using ht) (by simpa using hd)

theorem okTy_cells {n : Nat} {t : TypeId} (h : okTy P n t = true) {m : Nat} {cs : List Value} {x : DataW H × List MemPlace} (hx : DataW.trod enc P w 0 spare held m t cs = some x) : cs.length = P.cellsOf t := by
  cases n with
  | zero => simp [okTy] at h
  | succ n =>
    simp only [okTy] at h
    split at h
    · rename_i hu
      obtain ⟨b, rfl⟩ := trod_bool' hu hx
      have : P.cellsOf t = 1 := by simpa using h
      rw [this]; rfl
    · rename_i k hu
      obtain ⟨z, rfl, _⟩ := DataW.trod_int hu hx
      have : P.cellsOf t = 1 := by simpa using h
      rw [this]; rfl
    · rename_i hu
      obtain ⟨s, rfl, _⟩ := trod_str' hu hx
      have : P.cellsOf t = 1 := by simpa using h
      rw [this]; rfl
    · rename_i e hu
      simp only [Bool.and_eq_true] at h
      have : P.cellsOf t = 1 := by simpa using h.1.1
      rw [this]
      rcases DataW.trod_slice hu hx with ⟨rfl, _⟩ | ⟨a, len, cap, elems, rest, k, _, rfl, _⟩ <;> rfl
    · rename_i fs hu
      obtain ⟨xs, k, _, _, hl, _⟩ := DataW.trod_struct hu hx
      exact hl
    · simp at h

theorem fields_tell {n : Nat} {cs : List Value} (ih : ∀ t m (l : List Value) (x : DataW H × List MemPlace), okTy P n t = true → DataW.trod enc P w 0 spare held m t l = some x → (x.1.weights P t).all (· ≤ reachBytes) = true → ∃ a, Typed P n t a ∧ Tells w a l) :
    ∀ (l : List Field) (off N : Nat), okFields P (okTy P n) off l = some N → N ≤ cs.length →
      (∀ f ∈ l, ∃ m x, DataW.trod enc P w 0 spare held m f.type ((cs.drop f.offset).take (P.cellsOf f.type)) = some x ∧ (x.1.weights P f.type).all (· ≤ reachBytes) = true) →
      ∃ as : List AV, Each (Typed P n) (l.map (·.type)) as ∧ off + (as.flatMap AV.cells).length = N ∧ (∀ y ∈ as.flatMap AV.cells, y.isCell = true) ∧
        ∀ j (h : j < (as.flatMap AV.cells).length), RO w (old w) (as.flatMap AV.cells)[j] (cs.getD (off + j) undef)
  | [], off, N, h, _, _ => by
    simp only [okFields, Option.some.injEq] at h
    subst h
    exact ⟨[], trivial, rfl, fun y hy => by simp at hy, fun j hj => by simp at hj⟩
  | f :: r, off, N, h, hN, hf => by
    simp only [okFields] at h
    split at h
    · rename_i hc
      obtain ⟨m, x, hx, hw⟩ := hf f (by simp)
      obtain ⟨a, ha, hl, hci, hro⟩ := ih f.type m _ x hc.2 hx hw
      obtain ⟨as, h1, h2, h3, h4⟩ := fields_tell ih r _ N h hN (fun g hg => hf g (by simp [hg]))
      have hlen := okTy_cells hc.2 hx
      rw [hlen] at hl
      refine ⟨a :: as, ⟨ha, h1⟩, ?_, ?_, ?_⟩
      · rw [List.flatMap_cons, List.length_append, hl]; omega
      · intro y hy
        rw [List.flatMap_cons] at hy
        rcases List.mem_append.1 hy with hy | hy
        · exact hci y hy
        · exact h3 y hy
      · intro j hj
        simp only [List.flatMap_cons] at hj ⊢
        by_cases hja : j < a.cells.length
        · rw [List.getElem_append_left hja]
          have := hro j hja
          rw [List.getD_eq_getElem?_getD, List.getElem?_take, if_pos (by omega), List.getElem?_drop, hc.1] at this
          rw [List.getD_eq_getElem?_getD]
          exact this
        · rw [List.getElem_append_right (by omega)]
          have := h4 (j - a.cells.length) (by rw [List.length_append] at hj; omega)
          have e : off + P.cellsOf f.type + (j - a.cells.length) = off + j := by omega
          rw [e] at this
          exact this
    · simp at h

theorem tells : ∀ (n : Nat) (t : TypeId) (m : Nat) (cs : List Value) (x : DataW H × List MemPlace), okTy P n t = true → DataW.trod enc P w 0 spare held m t cs = some x → (x.1.weights P t).all (· ≤ reachBytes) = true →
    ∃ a, Typed P n t a ∧ Tells w a cs
  | 0, t, m, cs, x, h, _, _ => by simp [okTy] at h
  | n + 1, t, m, cs, x, h, hx, hw => by
    simp only [okTy] at h
    simp only [Typed]
    split at h
    · rename_i hu
      obtain ⟨b, rfl⟩ := trod_bool' hu hx
      exact ⟨.bool b, ⟨b, rfl⟩, tells_one rfl rfl (.bool _ _)⟩
    · rename_i k hu
      obtain ⟨z, rfl, _, hwf⟩ := DataW.trod_int hu hx
      exact ⟨.int k z, ⟨z, rfl, hwf⟩, tells_one rfl rfl (.int _ _ _)⟩
    · rename_i hu
      obtain ⟨s, rfl, hd⟩ := trod_str' hu hx
      rw [hd] at hw
      simp only [DataW.weights, List.all_cons, List.all_nil, Bool.and_true, decide_eq_true_eq] at hw
      exact ⟨.str s, ⟨s, rfl, by simpa using hw⟩, tells_one rfl rfl (.str _ _)⟩
    · rename_i e hu
      simp only [Bool.and_eq_true, decide_eq_true_eq] at h
      rcases DataW.trod_slice hu hx with ⟨rfl, rfl⟩ | ⟨a, len, cap, elems, rest, k, _, rfl, rfl, _, hl, hm, hlen, hel, _, _⟩
      · exact ⟨.sl false [], ⟨[], rfl, fun x hx => by simp at hx, by simp, by simp⟩, tells_one rfl rfl (.slNil _ _ _ _ (fun _ => rfl))⟩
      · simp only [DataW.weights, hu, List.all_cons, List.all_append, Bool.and_eq_true, decide_eq_true_eq, List.length_map] at hw
        have each : ∀ i, i < len → ∃ y l, elems[i]? = some y ∧ w.cells? 0 (a.add (i * P.cellsOf e)) (P.cellsOf e) = some l ∧ ∃ b, Typed P n e b ∧ Tells w b l := by
          intro i hi
          have h1 := hel i hi
          have h2 : i < elems.length := by omega
          rw [List.getElem?_eq_getElem h2] at h1
          obtain ⟨l, h3, h4⟩ := Option.bind_eq_some_iff.1 h1
          obtain ⟨b, h5, h6⟩ := tells n e k l _ h.1.2 h4 (weights_all hw.2.1 _ (List.mem_map.2 ⟨_, List.getElem_mem h2, rfl⟩))
          exact ⟨_, l, List.getElem?_eq_getElem h2, h3, b, h5, h6⟩
        -- the elements, one by one
        have build : ∀ q, q ≤ len → ∃ xs : List AV, xs.length = q ∧ ∀ i b, xs[i]? = some b → Typed P n e b ∧ ∃ l, w.cells? 0 (a.add (i * P.cellsOf e)) (P.cellsOf e) = some l ∧ Tells w b l := by
          intro q
          induction q with
          | zero => exact fun _ => ⟨[], rfl, fun i b hb => by simp at hb⟩
          | succ q ihq =>
            intro hq
            obtain ⟨xs, h1, h2⟩ := ihq (by omega)
            obtain ⟨_, l, _, h3, b, h4, h5⟩ := each q (by omega)
            refine ⟨xs ++ [b], by simp [h1], fun i c hc => ?_⟩
            by_cases hi : i < xs.length
            · rw [List.getElem?_append_left hi] at hc
              exact h2 i c hc
            · rw [List.getElem?_append_right (by omega)] at hc
              have hi0 : i - xs.length = 0 := by
                have := (List.getElem?_eq_some_iff.1 hc).1
                simp at this; omega
              rw [hi0] at hc
              obtain rfl : b = c := by simpa using hc
              obtain rfl : i = q := by omega
              exact ⟨h4, l, h3, h5⟩
        obtain ⟨xs, hxl, hxs⟩ := build len (Nat.le_refl _)
        refine ⟨.sl false xs, ⟨xs, rfl, fun b hb => ?_, ?_, ?_⟩, tells_one rfl rfl ?_⟩
        · obtain ⟨i, hi⟩ := List.getElem?_of_mem hb
          exact (hxs i b hi).1
        · rw [hxl, ← hlen]
          refine Nat.le_trans (Nat.mul_le_mul_right _ ?_) hw.1
          omega
        · rw [hxl]; omega
        · by_cases hne : xs = []
          · subst hne
            simp only [List.length_nil] at hxl
            subst hxl
            exact .slNil _ _ _ _ (fun e => by simp at e)
          · have hsz : ∀ b ∈ xs, b.cells.length = P.cellsOf e := by
              intro b hb
              obtain ⟨i, hi⟩ := List.getElem?_of_mem hb
              obtain ⟨_, l, h3, h4⟩ := hxs i b hi
              rw [h4.1, (World.cells?_some h3).2.1]
            have hfl : (flat xs).length = xs.length * P.cellsOf e := flat_length hsz
            have hsp : a.spot = none := by
              have h0 : 0 < xs.length := List.length_pos_iff.2 hne
              obtain ⟨_, l, h3, h4⟩ := hxs 0 _ (List.getElem?_eq_getElem h0)
              obtain ⟨_, h5, h6⟩ := World.cells?_some h3
              have h7 := h6 0 h.2
              have ha0 : (a.add (0 * P.cellsOf e)).add 0 = a := by rw [Nat.zero_mul]; simp [Addr.add]
              rw [ha0, List.getElem?_eq_getElem (by omega)] at h7
              unfold World.cell? at h7
              split at h7
              · split at h7
                · simp at h7
                · rename_i hq; simpa using hq
              · simp at h7
            have cellj : ∀ j, j < xs.length * P.cellsOf e → ∃ v, w.cell? (a.add j) = some v ∧ ∃ (hj : j < (flat xs).length), RO w (old w) (flat xs)[j] v := by
              intro j hj
              have hpos := h.2
              have hq : j / P.cellsOf e < xs.length := Nat.div_lt_of_lt_mul (by rw [Nat.mul_comm]; exact hj)
              have hr : j % P.cellsOf e < P.cellsOf e := Nat.mod_lt _ hpos
              have hjeq : j / P.cellsOf e * P.cellsOf e + j % P.cellsOf e = j := by rw [Nat.mul_comm]; exact Nat.div_add_mod j _
              obtain ⟨_, l, h3, h4⟩ := hxs _ _ (List.getElem?_eq_getElem hq)
              obtain ⟨_, h5, h6⟩ := World.cells?_some h3
              have h7 := h6 _ hr
              have h8 : j % P.cellsOf e < l.length := by omega
              have hspot : (a.add (j / P.cellsOf e * P.cellsOf e)).add (j % P.cellsOf e) = a.add j := by
                rw [add_eq hsp, add_eq rfl, add_eq hsp]
                simp only [Nat.add_assoc, hjeq]
              rw [hspot, List.getElem?_eq_getElem h8] at h7
              refine ⟨_, h7, by rw [hfl]; exact hj, ?_⟩
              have h9 := flat_at hsz (j / P.cellsOf e) (j % P.cellsOf e) _ (List.getElem?_eq_getElem hq) hr
              rw [hjeq, List.getElem?_eq_getElem (by rw [hfl]; exact hj), List.getElem?_eq_getElem (by rw [h4.1]; exact h8)] at h9
              rw [Option.some.inj h9]
              have := h4.2.2 (j % P.cellsOf e) (by rw [h4.1]; exact h8)
              rw [List.getD_eq_getElem?_getD, List.getElem?_eq_getElem h8] at this
              exact this
            have hcs : ∀ j, j < xs.length * P.cellsOf e → w.cell? (a.add j) = some ((w.cell? (a.add j)).getD undef) := by
              intro j hj
              obtain ⟨v, hv, _⟩ := cellj j hj
              rw [hv]; rfl
            have hblk : a.block < w.heap.size := by
              have h0 : 0 < xs.length := List.length_pos_iff.2 hne
              obtain ⟨v, hv, _⟩ := cellj 0 (Nat.mul_pos h0 h.2)
              refine Classical.byContradiction fun hn => ?_
              unfold World.cell? at hv
              rw [add_eq hsp, Array.getElem?_eq_none (by simpa using hn)] at hv
              simp at hv
            have hci : ∀ y ∈ flat xs, y.isCell = true := by
              intro y hy
              obtain ⟨b, hb, hyb⟩ := List.mem_flatMap.1 hy
              obtain ⟨i, hi⟩ := List.getElem?_of_mem hb
              obtain ⟨_, l, _, h4⟩ := hxs i b hi
              exact h4.2.1 y hyb
            rw [← hxl]
            refine .sl _ false xs a cap (P.cellsOf e) (fun j => (w.cell? (a.add j)).getD undef) hne (by omega) hsp hsz hci (fun j hj => ⟨⟨rfl, hblk⟩, hcs j hj⟩) (fun j hj => ?_)
            obtain ⟨v, hv, hj', hr⟩ := cellj j (by rw [← hfl]; exact hj)
            simp only [hv, Option.getD_some]
            exact hr.mono (fun fl b o hs => ⟨.inr hs.1, hs⟩) (fun _ _ _ _ => rfl)
    · rename_i fs hu
      have hN : okFields P (okTy P n) 0 fs.toList = some (P.cellsOf t) := by simpa using h
      obtain ⟨xs, k, _, rfl, hl, hlen, hf⟩ := DataW.trod_struct hu hx
      simp only [DataW.weights, hu] at hw
      obtain ⟨as, h1, h2, h3, h4⟩ := fields_tell (cs := cs) (fun t m l x => tells n t m l x) fs.toList 0 _ hN (by omega) (fun f hfm => by
        obtain ⟨i, hi⟩ := List.getElem?_of_mem hfm
        have hi' : fs[i]? = some f := by simpa using hi
        have h5 := hf i f hi'
        have h6 : i < xs.length := by rw [hlen]; exact (Array.getElem?_eq_some_iff.1 hi').1
        rw [List.getElem?_eq_getElem h6] at h5
        exact ⟨k, _, h5, weights_each hw i f.type _ (by simp [hi']) (by simp [List.getElem?_eq_getElem h6])⟩)
      exact ⟨.agg (as.flatMap AV.cells), ⟨as, rfl, h1⟩, by simp only [AV.cells]; omega, h3, fun j hj => by have := h4 j hj; rw [Nat.zero_add] at this; exact this⟩
    · simp at h
end
end Go.Proofs.Ytgckhjcfcandmaa.Flat
