/-
Operations that make or write memory: one law each, of the machine alone.
-/
import Derived.Test.YtgckhjcfcandmaaFlatJ
import Derived.Maps.AppendAt
set_option linter.unusedVariables false
set_option linter.unusedSimpArgs false
namespace Go.Proofs.Ytgckhjcfcandmaa.Flat
variable {P : Program}

/-- An append to a row of ours, whatever there is room for: what is read of the old row stays. -/
theorem append_any {w : World} {t ty e : TypeId} {i : TypeInfo} {z : Value} (ht : P.underlying t = some (.slice e)) (hi : P.info? e = some i) (hz : i.zero = some z)
    (hzs : z.cells.size = i.size) (hsz : 0 < i.size) {v : Value} {n : Nat} {xs : List Value} (hown : w.ownsRow 0 e i.size v n xs)
    (A : Option Addr) (m c : Nat) (news : List Value) (hA : A = none → m = 0) (hA0 : A = none → c = 0) (hl : news.length = m * i.size) (hnews : ∀ a, A = some a → ∀ j u, news[j]? = some u → w.cell? (a.add j) = some u) (h1 : ∀ u ∈ news, u.oneCell' = true)
    (h63 : n + m ≤ maxLen) (hbytes : (n + m) * i.bytes ≤ 140737488355328) :
    ∃ v' w', (Builtin.append_ #[t, t] ty #[v, .slice A m c]).run P w = .ok v' w' ∧ w'.ownsRow 0 e i.size v' (n + m) (xs ++ news) ∧
      w'.os = w.os ∧ w'.tape = w.tape ∧ w'.output = w.output ∧ w.heap.size ≤ w'.heap.size ∧ (∀ k, k < w.heap.size → some k ≠ v.ownBlock → w'.heap[k]? = w.heap[k]?) ∧
      (∀ g, v.ownBlock = some g → (∃ cur, w'.heap[g]? = some (.cells cur e (0, 0))) ∧ ∀ o, o < n * i.size → w'.cell? ⟨g, o, none⟩ = w.cell? ⟨g, o, none⟩) ∧
      (v'.ownBlock = v.ownBlock ∨ v'.ownBlock = some w.heap.size) ∧ (v = .slice none 0 0 → m = 0 → v' = .slice none 0 0) := by
  have hlen : (xs ++ news).length = (n + m) * i.size := by rw [List.length_append, hown.1, hl, Nat.add_mul]
  cases A with
  | none =>
    obtain rfl := hA rfl
    obtain rfl := hA0 rfl
    obtain rfl : news = [] := List.eq_nil_of_length_eq_zero (by simpa using hl)
    refine ⟨v, w, run_append_owned_none w 0 t ty e i i.size ht hi v n xs hown, by simpa using hown, rfl, rfl, rfl, Nat.le_refl _, fun _ _ _ => rfl, fun g hg => ⟨?_, fun _ _ => rfl⟩, .inl rfl, fun h _ => h⟩
    rcases hown.2 with ⟨rfl, _⟩ | ⟨g', cap, cur, rfl, _, hg', _⟩
    · simp [Value.ownBlock] at hg
    · obtain rfl : g' = g := by simpa [Value.ownBlock] using hg
      exact ⟨cur, hg'⟩
  | some a =>
    have hn := hnews a rfl
    have mk : ∀ (cap' : Nat), n + m ≤ cap' → cap' ≤ maxLen → ((w.drew.alloc (.cells (xs.toArray ++ news.toArray ++ Builtin.zeroCells z.cells (cap' - (n + m))) e)).ownsRow 0 e i.size
        (.slice (some ⟨w.heap.size, 0, none⟩) (n + m) cap') (n + m) (xs ++ news)) := by
      intro cap' hc hm
      refine ⟨hlen, .inr ⟨w.heap.size, _, _, rfl, Nat.zero_le _, heap_alloc_new w.drew _, hc, hm, ?_, ?_⟩⟩
      · simp only [Array.size_append, List.size_toArray, size_zeroCells, hzs, hown.1, hl, ← Nat.add_mul]
        congr 1
        omega
      · simp only [Array.toList_append, List.append_assoc]
        rw [← List.append_assoc, ← hlen]
        exact List.take_left
    rcases hown.2 with ⟨rfl, rfl⟩ | ⟨g, cap, cur, rfl, hbg, hg, hnc, hcm, hcs, htake⟩
    · obtain rfl : xs = [] := List.eq_nil_of_length_eq_zero (by simpa using hown.1)
      by_cases hm : m = 0
      · subst hm
        obtain rfl : news = [] := List.eq_nil_of_length_eq_zero (by simpa using hl)
        refine ⟨.slice none 0 0, w, ?_, hown, rfl, rfl, rfl, Nat.le_refl _, fun _ _ _ => rfl, fun g hg => by simp [Value.ownBlock] at hg, .inl rfl, fun h _ => h⟩
        simp [Builtin.append_, run_underlying ht, sizeOf, typeInfo, hi, Builtin.lenOf, Builtin.firstCells, loadCells, loadCellsFrom]
      · have hr := run_append_nil (P := P) w t ty e i z ht hi hz a m c news hl hn (by omega) (by simp only [maxLen] at h63; omega) (by have hb := hbytes; simp only [Nat.zero_add] at hb; omega)
        have hge := grownCap_ge w m 0 e
        have hcm : grownCap w m 0 e ≤ maxLen := grownCap_le_maxLen w m 0 e (by omega)
        have hmk := mk (grownCap w m 0 e) (by omega) hcm
        simp only [Nat.zero_add, List.nil_append, Array.empty_append] at hmk hr ⊢
        exact ⟨_, _, hr, hmk, rfl, rfl, rfl, by simp, fun k hk _ => heap_alloc_old w.drew _ hk, fun g hg => by simp [Value.ownBlock] at hg, .inr rfl, fun _ h => absurd h hm⟩
    · by_cases hroom : n + m ≤ cap
      · have hfit : n * i.size + news.length ≤ cur.size := by rw [hl, hcs, ← Nat.add_mul]; exact Nat.mul_le_mul_right _ hroom
        have hr := run_append_room (P := P) w t ty e i ht hi g n cap cur hg a m c news hl hn h1 hroom hfit
        have hset := setRow_heap w g cur (cur.toList.take (n * i.size) ++ news ++ cur.toList.drop (n * i.size + news.length)).toArray e _ hg
        refine ⟨_, _, hr, ⟨hlen, .inr ⟨g, cap, _, rfl, hbg, hset, hroom, hcm, ?_, ?_⟩⟩, rfl, rfl, rfl, by simp,
          fun k _ hk => setRow_other w g k _ (fun e => hk (by simp [Value.ownBlock, e])), fun g' hg' => ?_, .inl rfl, fun h => by simp at h⟩
        · simp only [List.size_toArray, List.length_append, List.length_take, List.length_drop, Array.length_toList]
          omega
        · rw [htake, ← hlen]
          exact List.take_left
        · obtain rfl : g = g' := by simpa [Value.ownBlock] using hg'
          refine ⟨⟨_, hset⟩, fun o ho => ?_⟩
          simp only [World.cell?, hset, hg]
          have hol : o < (cur.toList.take (n * i.size)).length := by simp; omega
          simp only [Option.isSome_none, Bool.false_eq_true, if_false]
          rw [List.getElem?_toArray, List.append_assoc, List.getElem?_append_left hol, List.getElem?_take_of_lt ho, Array.getElem?_toList]
      · have holds : ∀ j u, xs[j]? = some u → w.cell? ((⟨g, 0, none⟩ : Addr).add j) = some u := hown.cells (g := g) rfl
        have hr := run_append_grow (P := P) w t ty e i z ht hi hz ⟨g, 0, none⟩ n cap xs hown.1 holds a m c news hl hn (by omega) (by simp only [maxLen] at h63; omega) (growslice_fits (by omega) hbytes)
        have hmk := mk (grownCap w (n + m) cap e) (grownCap_ge w (n + m) cap e) (grownCap_le_maxLen w (n + m) cap e h63)
        refine ⟨_, _, hr, hmk, rfl, rfl, rfl, by simp, fun k hk _ => heap_alloc_old w.drew _ hk, fun g' hg' => ?_, .inr rfl, fun h => by simp at h⟩
        obtain rfl : g = g' := by simpa [Value.ownBlock] using hg'
        have hlt : g < w.heap.size := (Array.getElem?_eq_some_iff.1 hg).1
        have ho := heap_alloc_old w.drew (.cells (xs.toArray ++ news.toArray ++ Builtin.zeroCells z.cells (grownCap w (n + m) cap e - (n + m))) e) hlt
        refine ⟨⟨cur, ho.trans hg⟩, fun o _ => ?_⟩
        exact World.cell?_of_block ho

end Go.Proofs.Ytgckhjcfcandmaa.Flat
