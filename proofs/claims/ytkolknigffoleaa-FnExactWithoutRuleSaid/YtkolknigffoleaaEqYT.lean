/-
Which roles are reached: the plain law, no program in sight.
-/
import Derived.Test.YtkolknigffoleaaEqH
import Derived.Test.YtkolknigffoleaaEqS
set_option linter.unusedVariables false
set_option linter.unusedSimpArgs false
namespace Go.Proofs.Ytkolknigffoleaa.Flat.Roles
def isR (z : Int) : Bool := decide (0 ≤ z) && decide (z ≤ 5)
def Edge (l : List (Int × Int)) (a b : Nat) : Prop := ∃ x ∈ l, isR x.1 = true ∧ isR x.2 = true ∧ x.1.toNat = a ∧ x.2.toNat = b
inductive Reach (l : List (Int × Int)) : Nat → Nat → Prop
  | refl (a : Nat) : Reach l a a
  | step {a b c : Nat} (h : Reach l a b) (e : Edge l b c) : Reach l a c
theorem Reach.trans {l : List (Int × Int)} {a b c : Nat} (h : Reach l a b) (h' : Reach l b c) : Reach l a c := by
  induction h' with
  | refl => exact h
  | step _ e ih => exact .step ih e
def Has (m : List Bool) (i : Nat) : Prop := m[i]? = some true
def stepS (m : List Bool) (x : Int × Int) : List Bool := if (isR x.1 && isR x.2 && (m[x.1.toNat]?).getD false) = true then m.set x.2.toNat true else m
def pass (l : List (Int × Int)) (m : List Bool) : List Bool := l.foldl stepS m
def passes (l : List (Int × Int)) : Nat → List Bool → List Bool
  | 0, m => m
  | n + 1, m => passes l n (pass l m)
def cnt (m : List Bool) : Nat := m.count true
def marks (l : List (Int × Int)) (r : Nat) : List Bool := passes l 6 ((List.replicate 6 false).set r true)
def stepB (at' : Int) (p : List Bool × List Int) (x : Int × Int) : List Bool × List Int :=
  if (x.1 == at' && (isR x.2 && !((p.1[x.2.toNat]?).getD false))) = true then (p.1.set x.2.toNat true, p.2 ++ [x.2]) else p
def roundB (l : List (Int × Int)) (at' : Int) (p : List Bool × List Int) : List Bool × List Int := l.foldl (stepB at') p
def belowN (l : List (Int × Int)) : Nat → List Bool → List Int → List Bool
  | 0, m, _ => m
  | _, m, [] => m
  | n + 1, m, a :: t => belowN l n (roundB l a (m, t)).1 (roundB l a (m, t)).2
def below (l : List (Int × Int)) (r : Int) : List Bool := belowN l 7 (List.replicate 6 false) [r]
def Reach1 (l : List (Int × Int)) (a c : Nat) : Prop := ∃ b, Reach l a b ∧ Edge l b c
def Sound (l : List (Int × Int)) (r : Nat) (p : List Bool × List Int) : Prop := (∀ i, Has p.1 i → Reach1 l r i) ∧ ∀ z ∈ p.2, isR z = true ∧ Reach l r z.toNat
def left (p : List Bool × List Int) : Nat := 6 - cnt p.1 + p.2.length
end Go.Proofs.Ytkolknigffoleaa.Flat.Roles
set_option maxRecDepth 10000
namespace Go.Proofs.Ytkolknigffoleaa.Flat
def under (m : List Bool) (n : Nat) : List Int := ((List.range n).filter fun i => (m[i]?).getD false).map Int.ofNat
theorem evCall_mutOwn {Φ : Phi} {nid n id : Nat} {b : Bool} {e sz : Nat} {xs : List AV} {v : AV} {dst : Option Nat} {st : St} : evCall Φ [.mut, .ro] nid n [.own id b e sz xs, v] [] dst st = evGive Φ nid n [(.mut, .own id b e sz xs), (.ro, v)] dst st := rfl
theorem evCall_mutAgg {Φ : Phi} {nid n : Nat} {cs : List AV} {v : AV} {dst : Option Nat} {st : St} : evCall Φ [.mut, .ro] nid n [.agg cs, v] [] dst st = evGive Φ nid n [(.mut, .agg cs), (.ro, v)] dst st := rfl
theorem evCall_sub {Φ : Phi} {nid n id e sz i k : Nat} {xs : List AV} {m : IntKind} {z : Int} {dst : Option Nat} {st : St} : evCall Φ [.mut, .ro] nid n [.eptr true id false e sz xs i k, .int m z] [] dst st = evSub Φ n id xs i k [.int m z] dst st := rfl
def subOut (id : Nat) (xs : List AV) (i k : Nat) (x : AV) (e sz : Nat) (dst : Option Nat) (st : St) : Option (AV × List (List AV)) → Option St
  | some (ret, [[.own j false e' sz' ys']]) => if isScal ret = true ∧ e' = e ∧ sz' = sz ∧ AV.scals ys' = true then (st.setRow id (xs.set i (rebuild x (x.cells.set k (.tr e sz ys'))))).put dst ret else none
  | _ => none
theorem subOut_some {id i k e sz j e' sz' : Nat} {xs ys' : List AV} {x ret : AV} {dst : Option Nat} {st : St} : subOut id xs i k x e sz dst st (some (ret, [[.own j false e' sz' ys']])) = if isScal ret = true ∧ e' = e ∧ sz' = sz ∧ AV.scals ys' = true then (st.setRow id (xs.set i (rebuild x (x.cells.set k (.tr e sz ys'))))).put dst ret else none := rfl
theorem evSub_row {Φ : Phi} {n id e sz i k : Nat} {xs ys cs : List AV} {ros : List AV} {dst : Option Nat} {st : St} (hx : xs[i]? = some (.agg cs)) (hk : cs[k]? = some (.tr e sz ys)) : evSub Φ n id xs i k ros dst st = subOut id xs i k (.agg cs) e sz dst st (Φ n (.own 0 false e sz ys :: ros) []) := by
  have hk2 : (AV.agg cs).cells[k]? = some (.tr e sz ys) := hk
  simp -implicitDefEqProofs only [evSub, hx, Option.bind_some, hk2]
  cases Φ n (.own 0 false e sz ys :: ros) [] with
  | none => rfl
  | some p =>
    obtain ⟨ret, fin⟩ := p
    simp -implicitDefEqProofs only [Option.bind_some, subOut]
    split <;> (try rfl)
    rename_i h
    split
    · rename_i h2
      simp -implicitDefEqProofs only [Option.some.injEq, Prod.mk.injEq] at h2
      exact absurd h2.2 (fun e => h _ _ _ _ e)
    · rfl
section
variable {α : Type} (M : Int → α → α) (W : α → Nat) (T : α → AV)
def sumG : List α → Nat
  | [] => 0
  | c :: r => W c + sumG r
def mksG (z : Int) : List α → List α
  | [] => []
  | c :: r => M z c :: mksG (z + ((W c : Nat) : Int)) r
theorem sumG_append (p r : List α) : sumG W (p ++ r) = sumG W p + sumG W r := by
  induction p with
  | nil => simp [sumG]
  | cons c p ih => simp -implicitDefEqProofs only [List.cons_append, sumG, ih]; omega
theorem mksG_append (z : Int) (p r : List α) : mksG M W z (p ++ r) = mksG M W z p ++ mksG M W (z + ((sumG W p : Nat) : Int)) r := by
  induction p generalizing z with
  | nil => simp [mksG, sumG]
  | cons c p ih =>
    simp -implicitDefEqProofs only [List.cons_append, mksG, sumG, ih]
    congr 3
    omega
theorem mksG_len (z : Int) (s : List α) : (mksG M W z s).length = s.length := by
  induction s generalizing z with
  | nil => rfl
  | cons c r ih => simp -implicitDefEqProofs only [mksG, List.length_cons, ih]
def Zat (z : Int) (s : List α) (i : Nat) : Int := z + ((sumG W (s.take i) : Nat) : Int)
def Rat (z : Int) (s : List α) (i : Nat) : List AV := (mksG M W z (s.take i) ++ s.drop i).map T
theorem Zat_zero (z : Int) (s : List α) : Zat W z s 0 = z := by simp [Zat, sumG]
theorem Zat_end (z : Int) (s : List α) : Zat W z s s.length = z + ((sumG W s : Nat) : Int) := by simp [Zat]
theorem Rat_zero (z : Int) (s : List α) : Rat M W T z s 0 = s.map T := by simp [Rat, mksG]
theorem Rat_end (z : Int) (s : List α) : Rat M W T z s s.length = (mksG M W z s).map T := by simp [Rat]
theorem Rat_len (z : Int) (s : List α) (i : Nat) : (Rat M W T z s i).length = s.length := by
  simp -implicitDefEqProofs only [Rat, List.length_map, List.length_append, mksG_len, List.length_take, List.length_drop]
  omega
variable {M W T}
theorem Zat_succ {z : Int} {s pre r : List α} {x : α} (h : s = pre ++ x :: r) : Zat W z s (pre.length + 1) = Zat W z s pre.length + ((W x : Nat) : Int) := by
  obtain ⟨h1, h2⟩ := take_row h
  simp -implicitDefEqProofs only [Zat, h1, h2, sumG_append, sumG]
  omega
theorem Zat_le {z : Int} {s : List α} {i : Nat} : z ≤ Zat W z s i ∧ Zat W z s i ≤ z + ((sumG W s : Nat) : Int) := by
  have h : sumG W s = sumG W (s.take i) + sumG W (s.drop i) := by rw [← sumG_append, List.take_append_drop]
  unfold Zat
  omega
theorem Rat_at {z : Int} {s pre r : List α} {x : α} (h : s = pre ++ x :: r) : (Rat M W T z s pre.length)[pre.length]? = some (T x) := by
  have h1 := (take_row h).1
  have h2 : s.drop pre.length = x :: r := by subst h; simp
  simp -implicitDefEqProofs only [Rat, h1, h2, List.map_append, List.map_cons]
  have hl : ((mksG M W z pre).map T).length = pre.length := by rw [List.length_map, mksG_len]
  rw [List.getElem?_append_right (by omega), hl, Nat.sub_self]
  rfl
theorem Rat_set {z : Int} {s pre r : List α} {x : α} (h : s = pre ++ x :: r) : (Rat M W T z s pre.length).set pre.length (T (M (Zat W z s pre.length) x)) = Rat M W T z s (pre.length + 1) := by
  obtain ⟨h1, h1'⟩ := take_row h
  have h2 : s.drop pre.length = x :: r := by subst h; simp
  have h3 : s.drop (pre.length + 1) = r := by subst h; simp
  simp -implicitDefEqProofs only [Rat, Zat, h1, h1', h2, h3, mksG_append, mksG, List.map_append, List.map_cons, List.map_nil]
  have hl : ((mksG M W z pre).map T).length = pre.length := by rw [List.length_map, mksG_len]
  rw [List.set_append_right _ _ (by omega), hl, Nat.sub_self, List.set_cons_zero, List.append_assoc, List.singleton_append]
theorem mksG_at {z : Int} {s pre r : List α} {x : α} (h : mksG M W z s = pre ++ x :: r) : ∃ y, y ∈ s ∧ s[pre.length]? = some y ∧ x = M (Zat W z s pre.length) y ∧ Zat W z s (pre.length + 1) = Zat W z s pre.length + ((W y : Nat) : Int) := by
  have hl := mksG_len M W z s
  have hlt : pre.length < s.length := by rw [← hl, h]; simp
  have hs : s = s.take pre.length ++ s[pre.length] :: s.drop (pre.length + 1) := by rw [← List.drop_eq_getElem_cons hlt, List.take_append_drop]
  have htl : (s.take pre.length).length = pre.length := by rw [List.length_take]; omega
  refine ⟨s[pre.length], List.getElem_mem hlt, List.getElem?_eq_getElem hlt, ?_, ?_⟩
  · have h2 : (mksG M W z s)[pre.length]? = some x := by rw [h]; simp
    rw [hs, mksG_append, List.getElem?_append_right (by rw [mksG_len]; omega), mksG_len, htl, Nat.sub_self] at h2
    simp -implicitDefEqProofs only [mksG, List.getElem?_cons_zero, Option.some.injEq] at h2
    rw [← h2]
    rfl
  · have := Zat_succ (W := W) (z := z) hs
    rw [htl] at this
    exact this
end
mutual
def condMk (z : Int) : Cond → Cond
  | ⟨_, _, _, s⟩ => ⟨z, z + 1, z + 2, condMks (z + 3) s⟩
def condMks (z : Int) : List Cond → List Cond
  | [] => []
  | c :: r => condMk z c :: condMks (z + ((3 * (c.w + 1) : Nat) : Int)) r
end
def condW (c : Cond) : Nat := 3 * (c.w + 1)
theorem condMks_eq (z : Int) (s : List Cond) : condMks z s = mksG condMk condW z s := by
  induction s generalizing z with
  | nil => simp [condMks, mksG]
  | cons c r ih => simp -implicitDefEqProofs only [condMks, mksG, condW, ih]
theorem condMk_eq (z : Int) (c : Cond) : condMk z c = ⟨z, z + 1, z + 2, mksG condMk condW (z + 3) c.args⟩ := by
  cases c
  simp -implicitDefEqProofs only [condMk, condMks_eq]
theorem sum_cond (s : List Cond) : sumG condW s = 3 * wl Cond.w s := by
  induction s with
  | nil => rfl
  | cons c r ih => simp -implicitDefEqProofs only [sumG, wl, condW, ih]; omega
theorem condW_eq (c : Cond) : condW c = 3 + sumG condW c.args := by rw [sum_cond, condW, c.w_eq]; omega
theorem tenc_mk (z : Int) (c : Cond) : (condMk z c).tenc = .agg [.int .i64 z, .int .i64 (z + 1), .int .i64 (z + 2), .tr 41 4 ((mksG condMk condW (z + 3) c.args).map Cond.tenc)] := by rw [condMk_eq, tenc_Cond]
theorem enc_mk (fl : Bool) (z : Int) (c : Cond) : (condMk z c).enc fl = .agg [.int .i64 z, .int .i64 (z + 1), .int .i64 (z + 2), .sl fl ((mksG condMk condW (z + 3) c.args).map (Cond.enc fl))] := by rw [condMk_eq, enc_Cond]
theorem r_laws_markCondS0 (k : Nat) (s : List Cond) (hk : 281474976710656 + 4 * wl Cond.w s + 1 ≤ k) (z : Int) (hz : 0 ≤ z ∧ z + (sumG condW s : Nat) ≤ 4398046511104)
    (c1 : ∀ c ∈ s, ∀ y : Int, 0 ≤ y ∧ y + (sumG condW c.args : Nat) ≤ z + (sumG condW s : Nat) → run E noExt (k - 1) 24 [.own 0 false 41 4 (c.args.map Cond.tenc), .int .i64 y] [] = some (.int .i64 (y + ((sumG condW c.args : Nat) : Int)), [[.own 0 false 41 4 ((mksG condMk condW y c.args).map Cond.tenc)]])) :
    run E noExt k 24 [.own 0 false 41 4 (s.map Cond.tenc), .int .i64 z] [] = some (.int .i64 (z + ((sumG condW s : Nat) : Int)), [[.own 0 false 41 4 ((mksG condMk condW z s).map Cond.tenc)]]) := by
  have hsl : s.length ≤ sumG condW s := by have := wl_length Cond.w s; rw [sum_cond]; omega
  have hs : s.length ≤ 140737488355328 := by omega
  obtain ⟨k, rfl⟩ : ∃ j, k = j + 1 := ⟨k - 1, by omega⟩
  rw [run_succ rfl rfl, body_eq (nt := 41) (fn := Go.Proofs.Try.f24) (by kernel_rfl) rfl rfl rfl rfl rfl rfl rfl rfl]
  simp -implicitDefEqProofs only [Nat.add_sub_cancel] at c1
  simp -implicitDefEqProofs only [W4, ↓D4, ↓DA, ↓DP, ↓DC, Go.Proofs.Try.f24, SH, dedup, nodupB, idx, AV.rows, AV.rowss, AV.mapO, AV.mapOs, Int.reduceToNat, id_eq, Int.reduceBEq, Int.reduceLE, Int.reduceLT, Nat.reduceAdd, Nat.reduceEqDiff, Nat.reduceLT, Nat.reduceLeDiff, Nat.reduceMul, Nat.reduceSub, reduceIte]
  rw [ev_loop]
  refine Eq.trans (loop_list (Q := fun (_ : Unit) x => thenEnd E.P _ _ 0 (thenEv E _ _ _ _ _ (outOf 0 x)) = some (.int .i64 (z + ((sumG condW s : Nat) : Int)), [[.own 0 false 41 4 ((mksG condMk condW z s).map Cond.tenc)]])) s (fun _ _ _ => .inr ()) id
    (fun i _ => { sl := [(0, .own 0 false 41 4 (Rat condMk condW Cond.tenc z s i)), (1, .int .i64 (Zat condW z s i)), (5, .int .i64 (i : Nat))], bx := [], nx := 1, nt := 41 }) (fun _ _ => True) () ?_ ?_ (by omega) trivial ?_) ?_
  · intro _ _
    simp -implicitDefEqProofs only [W3, ↓D3, ↓DA, ↓DP, ↓DC, QX, Rat_len, SH, leaf_some, isNormal, Int.reduceToNat, id_eq, Int.reduceBEq, Int.reduceLE, Int.reduceLT, Nat.reduceAdd, Nat.reduceEqDiff, Nat.reduceLT, Nat.reduceLeDiff, Nat.reduceMul, Nat.reduceSub, reduceIte]
    repeat' (split <;> (rename_i h; (try simp -implicitDefEqProofs only [Bool.not_eq_true', Bool.not_eq_false', decide_eq_true_eq, decide_eq_false_iff_not] at h); (try simp -implicitDefEqProofs only [W3, ↓D3, ↓DA, ↓DP, ↓DC, QX, *, Rat_len, SH, leaf_some, isNormal, Int.reduceToNat, id_eq, Int.reduceBEq, Int.reduceLE, Int.reduceLT, Nat.reduceAdd, Nat.reduceEqDiff, Nat.reduceLT, Nat.reduceLeDiff, Nat.reduceMul, Nat.reduceSub, reduceIte])))
    rw [finish_mut1 rfl]
    simp -implicitDefEqProofs only [W3, ↓D3, ↓DA, ↓DP, ↓DC, finC, Rat_end, Zat_end, Int.reduceToNat, id_eq, Int.reduceBEq, Int.reduceLE, Int.reduceLT, SH, Nat.reduceAdd, Nat.reduceEqDiff, Nat.reduceLT, Nat.reduceLeDiff, Nat.reduceMul, Nat.reduceSub, reduceIte]
  · intro pre x r b hs' _
    have hx := (at_row hs' hs).1; have hc := (at_row hs' hs).2.1; have hlt := (at_row hs' hs).2.2.1; have hw1 := (at_row hs' hs).2.2.2.1; have hl9 := (at_row hs' hs).2.2.2.2
    have hat := Rat_at (M := condMk) (W := condW) (T := Cond.tenc) (z := z) hs'
    have hset := Rat_set (M := condMk) (W := condW) (T := Cond.tenc) (z := z) hs'
    have hlen := Rat_len condMk condW Cond.tenc z s pre.length
    have hsucc := Zat_succ (W := condW) (z := z) hs'
    have hle := Zat_le (W := condW) (z := z) (s := s) (i := pre.length)
    have hle1 := Zat_le (W := condW) (z := z) (s := s) (i := pre.length + 1)
    clear hs'
    rw [hsucc] at hle1
    rw [condW_eq] at hsucc hle1
    have c2 := c1 x hc (Zat condW z s pre.length + 3) (by omega)
    generalize Zat condW z s pre.length = Z at *
    have hw2 : IntKind.i64.wrap (Z + 1) = Z + 1 := IntWalk.i64_in _ (by omega)
    have hw3 : IntKind.i64.wrap (Z + 1 + 1) = Z + 2 := by rw [IntWalk.i64_in _ (by omega)]; omega
    have hw4 : IntKind.i64.wrap (Z + 2 + 1) = Z + 3 := by rw [IntWalk.i64_in _ (by omega)]; omega
    have hsc := tscals_Cond (mksG condMk condW (Z + 3) x.args)
    have hfin : Z + 3 + ((sumG condW x.args : Nat) : Int) = Zat condW z s (pre.length + 1) := by rw [hsucc]; omega
    rw [hfin] at c2
    rw [tenc_mk] at hset
    rw [tenc_Cond] at hat
    generalize Rat condMk condW Cond.tenc z s pre.length = b at *
    have hl2 : ((pre.length : Nat) : Int) < ((b.length : Nat) : Int) := by omega
    have hg : ∀ v : AV, (b.set pre.length v)[pre.length]? = some v := fun v => List.getElem?_set_self (by omega)
    have hg2 : ∀ cs, (b.set pre.length (.agg cs))[pre.length]? = some (.agg cs) := fun v => List.getElem?_set_self (by omega)
    have h4 := fun ros dst st => evSub_row (Φ := run E noExt k) (n := 24) (id := 0) (xs := b.set pre.length (.agg [.int .i64 Z, .int .i64 (Z + 1), .int .i64 (Z + 2), .tr 41 4 (x.args.map Cond.tenc)])) (i := pre.length) (k := 3) (ros := ros) (dst := dst) (st := st) (hg2 _) rfl
    simp -implicitDefEqProofs only [W3, ↓D3, ↓DA, ↓DP, ↓DC, QX, hlt, hl2, hw1, hw2, hw3, hw4, hat, hg, hsc, hset, evCall_sub, h4, c2, subOut_some, isScal, List.set_set, List.length_set, List.set_cons_succ, List.set_cons_zero, look_cons, reduceCtorEq, evCall_mutOwn, evCall_mutAgg, evGive, giveRows, ioBoxes, mutArgs, roArgs, handArg, mutSlots, isPtrB, pairs, pairss, back_nil, back_cons, backO, backE, setBoxes, importB, mode_mut, mode_give, mode_io, mode_ro, List.zip_cons_cons, List.zip_nil_left, List.zip_nil_right, ite_self, ite_true, ite_false, finish_give, finish_mut1, finish_io0, finish_io1, finish_io2, finish_io3, finish_ioc, finI, finC, finW_ptr, SH, keep_24_2, leaf_some, isNormal, Int.reduceToNat, id_eq, Int.reduceBEq, Int.reduceLE, Int.reduceLT, Nat.reduceAdd, Nat.reduceEqDiff, Nat.reduceLT, Nat.reduceLeDiff, Nat.reduceMul, Nat.reduceSub, reduceIte]
    repeat' (split <;> (rename_i h; (try simp -implicitDefEqProofs only [Bool.not_eq_true', Bool.not_eq_false', decide_eq_true_eq, decide_eq_false_iff_not] at h); (try simp -implicitDefEqProofs only [W3, ↓D3, ↓DA, ↓DP, ↓DC, QX, *, hlt, hl2, hw1, hw2, hw3, hw4, hat, hg, hsc, hset, evCall_sub, h4, c2, subOut_some, isScal, List.set_set, List.length_set, List.set_cons_succ, List.set_cons_zero, look_cons, reduceCtorEq, evCall_mutOwn, evCall_mutAgg, evGive, giveRows, ioBoxes, mutArgs, roArgs, handArg, mutSlots, isPtrB, pairs, pairss, back_nil, back_cons, backO, backE, setBoxes, importB, mode_mut, mode_give, mode_io, mode_ro, List.zip_cons_cons, List.zip_nil_left, List.zip_nil_right, ite_self, ite_true, ite_false, finish_give, finish_mut1, finish_io0, finish_io1, finish_io2, finish_io3, finish_ioc, finI, finC, finW_ptr, SH, keep_24_2, leaf_some, isNormal, Int.reduceToNat, id_eq, Int.reduceBEq, Int.reduceLE, Int.reduceLT, Nat.reduceAdd, Nat.reduceEqDiff, Nat.reduceLT, Nat.reduceLeDiff, Nat.reduceMul, Nat.reduceSub, reduceIte])))
  · simp -implicitDefEqProofs only [firstRegion]
    rw [keep_24_2]
    simp -implicitDefEqProofs only [W3, ↓D3, ↓DA, ↓DP, ↓DC, Rat_zero, Zat_zero, Int.reduceToNat, id_eq, Int.reduceBEq, Int.reduceLE, Int.reduceLT, SH, Nat.reduceAdd, Nat.reduceEqDiff, Nat.reduceLT, Nat.reduceLeDiff, Nat.reduceMul, Nat.reduceSub, reduceIte]
  · rfl
theorem markArgs (c : Cond) : ∀ k, 281474976710656 + 4 * c.w + 1 ≤ k → ∀ z : Int, 0 ≤ z ∧ z + (sumG condW c.args : Nat) ≤ 4398046511104 →
    run E noExt k 24 [.own 0 false 41 4 (c.args.map Cond.tenc), .int .i64 z] [] = some (.int .i64 (z + ((sumG condW c.args : Nat) : Int)), [[.own 0 false 41 4 ((mksG condMk condW z c.args).map Cond.tenc)]]) := by
  induction c using Cond.induct with
  | h c ih =>
    intro k hk z hz
    rw [c.w_eq] at hk
    exact r_laws_markCondS0 k c.args hk z hz fun d hd y hy => ih d hd (k - 1) (by have := wl_mem (w := Cond.w) hd; omega) y ⟨hy.1, by omega⟩
theorem r_laws_heldCondS0 {fl : Bool} (k : Nat) (s : List Cond) (hk : 281474976710656 + 4 * wl Cond.w s + 1 ≤ k) (z : Int) (hz : 0 ≤ z ∧ z + (sumG condW s : Nat) ≤ 4398046511104)
    (c1 : ∀ c ∈ s, ∀ y : Int, 0 ≤ y ∧ y + (sumG condW c.args : Nat) ≤ z + (sumG condW s : Nat) → run E noExt (k - 1) 25 [.sl fl ((mksG condMk condW y c.args).map (Cond.enc fl)), .int .i64 y] [] = some (.int .i64 (y + ((sumG condW c.args : Nat) : Int)), [])) :
    run E noExt k 25 [.sl fl ((mksG condMk condW z s).map (Cond.enc fl)), .int .i64 z] [] = some (.int .i64 (z + ((sumG condW s : Nat) : Int)), []) := by
  have hsl : s.length ≤ sumG condW s := by have := wl_length Cond.w s; rw [sum_cond]; omega
  have hl := mksG_len condMk condW z s
  have hs : (mksG condMk condW z s).length ≤ 140737488355328 := by omega
  obtain ⟨k, rfl⟩ : ∃ j, k = j + 1 := ⟨k - 1, by omega⟩
  rw [run_succ rfl rfl, body_eq (nt := 49) (fn := Go.Proofs.Try.f25) (by kernel_rfl) rfl rfl rfl rfl rfl rfl rfl rfl]
  simp -implicitDefEqProofs only [Nat.add_sub_cancel] at c1
  simp -implicitDefEqProofs only [W1, ↓D1, ↓DC, Go.Proofs.Try.f25, Int.reduceToNat, id_eq, Int.reduceBEq, Int.reduceLE, Int.reduceLT, Nat.reduceAdd, Nat.reduceEqDiff, Nat.reduceLT, Nat.reduceLeDiff, Nat.reduceMul, Nat.reduceSub, reduceIte]
  rw [ev_loop]
  refine Eq.trans (loop_list (Q := fun (_ : Unit) x => thenEnd E.P [] _ 0 (thenEv E _ _ _ _ _ (outOf 0 x)) = some (.int .i64 (z + ((sumG condW s : Nat) : Int)), [])) (mksG condMk condW z s) (fun _ _ _ => .inr ()) id
    (fun i _ => { sl := [(0, .sl fl ((mksG condMk condW z s).map (Cond.enc fl))), (1, .int .i64 (Zat condW z s i)), (5, .int .i64 (i : Nat))], bx := [], nx := 0, nt := 49 }) (fun _ _ => True) () ?_ ?_ (by omega) trivial ?_) ?_
  · intro _ _
    simp -implicitDefEqProofs only [W2, ↓D2, ↓DC, QX, hl, Zat_end, Int.reduceToNat, id_eq, Int.reduceBEq, Int.reduceLE, Int.reduceLT, leaf_some, isNormal, Nat.reduceAdd, Nat.reduceEqDiff, Nat.reduceLT, Nat.reduceLeDiff, Nat.reduceMul, Nat.reduceSub, reduceIte]
    repeat' (split <;> (rename_i h; (try simp -implicitDefEqProofs only [Bool.not_eq_true', Bool.not_eq_false', decide_eq_true_eq, decide_eq_false_iff_not] at h); (try simp -implicitDefEqProofs only [W2, ↓D2, ↓DC, QX, *, hl, Zat_end, Int.reduceToNat, id_eq, Int.reduceBEq, Int.reduceLE, Int.reduceLT, leaf_some, isNormal, Nat.reduceAdd, Nat.reduceEqDiff, Nat.reduceLT, Nat.reduceLeDiff, Nat.reduceMul, Nat.reduceSub, reduceIte])))
  · intro pre x r b hs' _
    obtain ⟨y, hy, _, hxe, hsucc⟩ := mksG_at hs'
    have hx := (at_row hs' hs).1; have hc := (at_row hs' hs).2.1; have hlt := (at_row hs' hs).2.2.1; have hw1 := (at_row hs' hs).2.2.2.1; have hl9 := (at_row hs' hs).2.2.2.2
    have hle := Zat_le (W := condW) (z := z) (s := s) (i := pre.length)
    have hle1 := Zat_le (W := condW) (z := z) (s := s) (i := pre.length + 1)
    clear hs' hc
    subst hxe
    rw [hsucc] at hle1
    rw [condW_eq] at hsucc hle1
    have c2 := c1 y hy (Zat condW z s pre.length + 3) (by omega)
    generalize Zat condW z s pre.length = Z at *
    have hw2 : IntKind.i64.wrap (Z + 1) = Z + 1 := IntWalk.i64_in _ (by omega)
    have hw3 : IntKind.i64.wrap (Z + 1 + 1) = Z + 2 := by rw [IntWalk.i64_in _ (by omega)]; omega
    have hw4 : IntKind.i64.wrap (Z + 2 + 1) = Z + 3 := by rw [IntWalk.i64_in _ (by omega)]; omega
    have hfin : Z + 3 + ((sumG condW y.args : Nat) : Int) = Zat condW z s (pre.length + 1) := by rw [hsucc]; omega
    have hneg : decide (Zat condW z s (pre.length + 1) < 0) = false := by rw [hsucc]; exact decide_eq_false (by omega)
    rw [hfin] at c2
    simp -implicitDefEqProofs only [W2, ↓D2, ↓DC, QX, enc_mk, hx, hlt, hw1, hw2, hw3, hw4, c2, hneg, bne, keep_25_2, leaf_some, isNormal, Int.reduceToNat, id_eq, Int.reduceBEq, Int.reduceLE, Int.reduceLT, Nat.reduceAdd, Nat.reduceEqDiff, Nat.reduceLT, Nat.reduceLeDiff, Nat.reduceMul, Nat.reduceSub, reduceIte]
    repeat' (split <;> (rename_i h; (try simp -implicitDefEqProofs only [Bool.not_eq_true', Bool.not_eq_false', decide_eq_true_eq, decide_eq_false_iff_not] at h); (try simp -implicitDefEqProofs only [W2, ↓D2, ↓DC, QX, *, enc_mk, hx, hlt, hw1, hw2, hw3, hw4, c2, hneg, bne, keep_25_2, leaf_some, isNormal, Int.reduceToNat, id_eq, Int.reduceBEq, Int.reduceLE, Int.reduceLT, Nat.reduceAdd, Nat.reduceEqDiff, Nat.reduceLT, Nat.reduceLeDiff, Nat.reduceMul, Nat.reduceSub, reduceIte])))
  · simp -implicitDefEqProofs only [firstRegion]
    rw [keep_25_2]
    simp -implicitDefEqProofs only [W2, ↓D2, ↓DC, Zat_zero, Int.reduceToNat, id_eq, Int.reduceBEq, Int.reduceLE, Int.reduceLT, Nat.reduceAdd, Nat.reduceEqDiff, Nat.reduceLT, Nat.reduceLeDiff, Nat.reduceMul, Nat.reduceSub, reduceIte]
  · rfl
theorem heldArgs {fl : Bool} (c : Cond) : ∀ k, 281474976710656 + 4 * c.w + 1 ≤ k → ∀ z : Int, 0 ≤ z ∧ z + (sumG condW c.args : Nat) ≤ 4398046511104 →
    run E noExt k 25 [.sl fl ((mksG condMk condW z c.args).map (Cond.enc fl)), .int .i64 z] [] = some (.int .i64 (z + ((sumG condW c.args : Nat) : Int)), []) := by
  induction c using Cond.induct with
  | h c ih =>
    intro k hk z hz
    rw [c.w_eq] at hk
    exact r_laws_heldCondS0 k c.args hk z hz fun d hd y hy => ih d hd (k - 1) (by have := wl_mem (w := Cond.w) hd; omega) y ⟨hy.1, by omega⟩
def ruleMk (z : Int) (r : Rule) : Rule := ⟨z, z + 1, z + 2, ⟨z + 3, z + 4, z + 5, mksG condMk condW (z + 6) r.cond.args⟩⟩
def ruleW (r : Rule) : Nat := 6 + sumG condW r.cond.args
theorem sum_rule (s : List Rule) : sumG ruleW s ≤ 6 * wl Rule.w s := by
  induction s with
  | nil => simp [sumG, wl]
  | cons c r ih => simp -implicitDefEqProofs only [sumG, wl, ruleW, sum_cond]; have hw : c.w = c.cond.w := rfl; rw [hw, c.cond.w_eq]; omega
theorem tenc_mkR (z : Int) (r : Rule) : (ruleMk z r).tenc = .agg [.int .i64 z, .int .i64 (z + 1), .int .i64 (z + 2), .int .i64 (z + 3), .int .i64 (z + 4), .int .i64 (z + 5), .tr 41 4 ((mksG condMk condW (z + 6) r.cond.args).map Cond.tenc)] := rfl
theorem enc_mkR (fl : Bool) (z : Int) (r : Rule) : (ruleMk z r).enc fl = .agg [.int .i64 z, .int .i64 (z + 1), .int .i64 (z + 2), .int .i64 (z + 3), .int .i64 (z + 4), .int .i64 (z + 5), .sl fl ((mksG condMk condW (z + 6) r.cond.args).map (Cond.enc fl))] := rfl
theorem r_laws_markRuleS (k : Nat) (s : List Rule) (hk : 281474976710656 + 4 * wl Rule.w s + 2 ≤ k) (z : Int) (hz : 0 ≤ z ∧ z + (sumG ruleW s : Nat) ≤ 4398046511104) :
    run E noExt k 17 [.own 0 false 43 7 (s.map Rule.tenc), .int .i64 z] [] = some (.int .i64 (z + ((sumG ruleW s : Nat) : Int)), [[.own 0 false 43 7 ((mksG ruleMk ruleW z s).map Rule.tenc)]]) := by
  have hsl : s.length ≤ sumG ruleW s := by
    clear hk hz
    induction s with
    | nil => simp [sumG]
    | cons c r ih => simp -implicitDefEqProofs only [sumG, ruleW, List.length_cons]; omega
  have hs : s.length ≤ 140737488355328 := by omega
  have c1 := fun (x : Rule) (hx : x ∈ s) y hy => markArgs x.cond (k - 1) (by have := wl_mem (w := Rule.w) hx; have hw : x.w = x.cond.w := rfl; omega) y hy
  obtain ⟨k, rfl⟩ : ∃ j, k = j + 1 := ⟨k - 1, by omega⟩
  rw [run_succ rfl rfl, body_eq (nt := 66) (fn := Go.Proofs.Try.f17) (by kernel_rfl) rfl rfl rfl rfl rfl rfl rfl rfl]
  simp -implicitDefEqProofs only [Nat.add_sub_cancel] at c1
  simp -implicitDefEqProofs only [W4, ↓D4, ↓DA, ↓DP, ↓DC, Go.Proofs.Try.f17, SH, dedup, nodupB, idx, AV.rows, AV.rowss, AV.mapO, AV.mapOs, Int.reduceToNat, id_eq, Int.reduceBEq, Int.reduceLE, Int.reduceLT, Nat.reduceAdd, Nat.reduceEqDiff, Nat.reduceLT, Nat.reduceLeDiff, Nat.reduceMul, Nat.reduceSub, reduceIte]
  rw [ev_loop]
  refine Eq.trans (loop_list (Q := fun (_ : Unit) x => thenEnd E.P _ _ 0 (thenEv E _ _ _ _ _ (outOf 0 x)) = some (.int .i64 (z + ((sumG ruleW s : Nat) : Int)), [[.own 0 false 43 7 ((mksG ruleMk ruleW z s).map Rule.tenc)]])) s (fun _ _ _ => .inr ()) id
    (fun i _ => { sl := [(0, .own 0 false 43 7 (Rat ruleMk ruleW Rule.tenc z s i)), (1, .int .i64 (Zat ruleW z s i)), (5, .int .i64 (i : Nat))], bx := [], nx := 1, nt := 66 }) (fun _ _ => True) () ?_ ?_ (by omega) trivial ?_) ?_
  · intro _ _
    simp -implicitDefEqProofs only [W3, ↓D3, ↓DA, ↓DP, ↓DC, QX, Rat_len, SH, leaf_some, isNormal, Int.reduceToNat, id_eq, Int.reduceBEq, Int.reduceLE, Int.reduceLT, Nat.reduceAdd, Nat.reduceEqDiff, Nat.reduceLT, Nat.reduceLeDiff, Nat.reduceMul, Nat.reduceSub, reduceIte]
    repeat' (split <;> (rename_i h; (try simp -implicitDefEqProofs only [Bool.not_eq_true', Bool.not_eq_false', decide_eq_true_eq, decide_eq_false_iff_not] at h); (try simp -implicitDefEqProofs only [W3, ↓D3, ↓DA, ↓DP, ↓DC, QX, *, Rat_len, SH, leaf_some, isNormal, Int.reduceToNat, id_eq, Int.reduceBEq, Int.reduceLE, Int.reduceLT, Nat.reduceAdd, Nat.reduceEqDiff, Nat.reduceLT, Nat.reduceLeDiff, Nat.reduceMul, Nat.reduceSub, reduceIte])))
    rw [finish_mut1 rfl]
    simp -implicitDefEqProofs only [W3, ↓D3, ↓DA, ↓DP, ↓DC, finC, Rat_end, Zat_end, Int.reduceToNat, id_eq, Int.reduceBEq, Int.reduceLE, Int.reduceLT, SH, Nat.reduceAdd, Nat.reduceEqDiff, Nat.reduceLT, Nat.reduceLeDiff, Nat.reduceMul, Nat.reduceSub, reduceIte]
  · intro pre x r b hs' _
    have hx := (at_row hs' hs).1; have hc := (at_row hs' hs).2.1; have hlt := (at_row hs' hs).2.2.1; have hw1 := (at_row hs' hs).2.2.2.1; have hl9 := (at_row hs' hs).2.2.2.2
    have hat := Rat_at (M := ruleMk) (W := ruleW) (T := Rule.tenc) (z := z) hs'
    have hset := Rat_set (M := ruleMk) (W := ruleW) (T := Rule.tenc) (z := z) hs'
    have hlen := Rat_len ruleMk ruleW Rule.tenc z s pre.length
    have hsucc := Zat_succ (W := ruleW) (z := z) hs'
    have hle := Zat_le (W := ruleW) (z := z) (s := s) (i := pre.length)
    have hle1 := Zat_le (W := ruleW) (z := z) (s := s) (i := pre.length + 1)
    clear hs'
    rw [hsucc] at hle1
    rw [show ruleW x = 6 + sumG condW x.cond.args from rfl] at hsucc hle1
    have c2 := c1 x hc (Zat ruleW z s pre.length + 6) (by omega)
    generalize Zat ruleW z s pre.length = Z at *
    have hw2 : IntKind.i64.wrap (Z + 1) = Z + 1 := IntWalk.i64_in _ (by omega)
    have hw3 : IntKind.i64.wrap (Z + 1 + 1) = Z + 2 := by rw [IntWalk.i64_in _ (by omega)]; omega
    have hw4 : IntKind.i64.wrap (Z + 2 + 1) = Z + 3 := by rw [IntWalk.i64_in _ (by omega)]; omega
    have hw5 : IntKind.i64.wrap (Z + 3 + 1) = Z + 4 := by rw [IntWalk.i64_in _ (by omega)]; omega
    have hw6 : IntKind.i64.wrap (Z + 4 + 1) = Z + 5 := by rw [IntWalk.i64_in _ (by omega)]; omega
    have hw7 : IntKind.i64.wrap (Z + 5 + 1) = Z + 6 := by rw [IntWalk.i64_in _ (by omega)]; omega
    have hsc := tscals_Cond (mksG condMk condW (Z + 6) x.cond.args)
    have hfin : Z + 6 + ((sumG condW x.cond.args : Nat) : Int) = Zat ruleW z s (pre.length + 1) := by rw [hsucc]; omega
    rw [hfin] at c2
    rw [tenc_mkR] at hset
    rw [tenc_Rule] at hat
    generalize Rat ruleMk ruleW Rule.tenc z s pre.length = b at *
    have hl2 : ((pre.length : Nat) : Int) < ((b.length : Nat) : Int) := by omega
    have hg : ∀ v : AV, (b.set pre.length v)[pre.length]? = some v := fun v => List.getElem?_set_self (by omega)
    have hg2 : ∀ cs, (b.set pre.length (.agg cs))[pre.length]? = some (.agg cs) := fun v => List.getElem?_set_self (by omega)
    have h4 := fun ros dst st => evSub_row (Φ := run E noExt k) (n := 24) (id := 0) (xs := b.set pre.length (.agg [.int .i64 Z, .int .i64 (Z + 1), .int .i64 (Z + 2), .int .i64 (Z + 3), .int .i64 (Z + 4), .int .i64 (Z + 5), .tr 41 4 (x.cond.args.map Cond.tenc)])) (i := pre.length) (k := 6) (ros := ros) (dst := dst) (st := st) (hg2 _) rfl
    simp -implicitDefEqProofs only [W3, ↓D3, ↓DA, ↓DP, ↓DC, QX, hlt, hl2, hw1, hw2, hw3, hw4, hw5, hw6, hw7, hat, hg, hsc, hset, evCall_sub, h4, c2, subOut_some, isScal, List.set_set, List.length_set, List.set_cons_succ, List.set_cons_zero, look_cons, reduceCtorEq, evCall_mutOwn, evCall_mutAgg, evGive, giveRows, ioBoxes, mutArgs, roArgs, handArg, mutSlots, isPtrB, pairs, pairss, back_nil, back_cons, backO, backE, setBoxes, importB, mode_mut, mode_give, mode_io, mode_ro, List.zip_cons_cons, List.zip_nil_left, List.zip_nil_right, ite_self, ite_true, ite_false, finish_give, finish_mut1, finish_io0, finish_io1, finish_io2, finish_io3, finish_ioc, finI, finC, finW_ptr, SH, keep_17_2, leaf_some, isNormal, Int.reduceToNat, id_eq, Int.reduceBEq, Int.reduceLE, Int.reduceLT, Nat.reduceAdd, Nat.reduceEqDiff, Nat.reduceLT, Nat.reduceLeDiff, Nat.reduceMul, Nat.reduceSub, reduceIte]
    repeat' (split <;> (rename_i h; (try simp -implicitDefEqProofs only [Bool.not_eq_true', Bool.not_eq_false', decide_eq_true_eq, decide_eq_false_iff_not] at h); (try simp -implicitDefEqProofs only [W3, ↓D3, ↓DA, ↓DP, ↓DC, QX, *, hlt, hl2, hw1, hw2, hw3, hw4, hw5, hw6, hw7, hat, hg, hsc, hset, evCall_sub, h4, c2, subOut_some, isScal, List.set_set, List.length_set, List.set_cons_succ, List.set_cons_zero, look_cons, reduceCtorEq, evCall_mutOwn, evCall_mutAgg, evGive, giveRows, ioBoxes, mutArgs, roArgs, handArg, mutSlots, isPtrB, pairs, pairss, back_nil, back_cons, backO, backE, setBoxes, importB, mode_mut, mode_give, mode_io, mode_ro, List.zip_cons_cons, List.zip_nil_left, List.zip_nil_right, ite_self, ite_true, ite_false, finish_give, finish_mut1, finish_io0, finish_io1, finish_io2, finish_io3, finish_ioc, finI, finC, finW_ptr, SH, keep_17_2, leaf_some, isNormal, Int.reduceToNat, id_eq, Int.reduceBEq, Int.reduceLE, Int.reduceLT, Nat.reduceAdd, Nat.reduceEqDiff, Nat.reduceLT, Nat.reduceLeDiff, Nat.reduceMul, Nat.reduceSub, reduceIte])))
  · simp -implicitDefEqProofs only [firstRegion]
    rw [keep_17_2]
    simp -implicitDefEqProofs only [W3, ↓D3, ↓DA, ↓DP, ↓DC, Rat_zero, Zat_zero, Int.reduceToNat, id_eq, Int.reduceBEq, Int.reduceLE, Int.reduceLT, SH, Nat.reduceAdd, Nat.reduceEqDiff, Nat.reduceLT, Nat.reduceLeDiff, Nat.reduceMul, Nat.reduceSub, reduceIte]
  · rfl
theorem r_laws_heldRuleS {fl : Bool} (k : Nat) (s : List Rule) (hk : 281474976710656 + 4 * wl Rule.w s + 2 ≤ k) (z : Int) (hz : 0 ≤ z ∧ z + (sumG ruleW s : Nat) ≤ 4398046511104) :
    run E noExt k 18 [.sl fl ((mksG ruleMk ruleW z s).map (Rule.enc fl)), .int .i64 z] [] = some (.int .i64 (z + ((sumG ruleW s : Nat) : Int)), []) := by
  have hsl : s.length ≤ sumG ruleW s := by
    clear hk hz
    induction s with
    | nil => simp [sumG]
    | cons c r ih => simp -implicitDefEqProofs only [sumG, ruleW, List.length_cons]; omega
  have hl := mksG_len ruleMk ruleW z s
  have hs : (mksG ruleMk ruleW z s).length ≤ 140737488355328 := by omega
  have c1 := fun (x : Rule) (hx : x ∈ s) y hy => heldArgs (fl := fl) x.cond (k - 1) (by have := wl_mem (w := Rule.w) hx; have hw : x.w = x.cond.w := rfl; omega) y hy
  obtain ⟨k, rfl⟩ : ∃ j, k = j + 1 := ⟨k - 1, by omega⟩
  rw [run_succ rfl rfl, body_eq (nt := 80) (fn := Go.Proofs.Try.f18) (by kernel_rfl) rfl rfl rfl rfl rfl rfl rfl rfl]
  simp -implicitDefEqProofs only [Nat.add_sub_cancel] at c1
  simp -implicitDefEqProofs only [W1, ↓D1, ↓DC, Go.Proofs.Try.f18, Int.reduceToNat, id_eq, Int.reduceBEq, Int.reduceLE, Int.reduceLT, Nat.reduceAdd, Nat.reduceEqDiff, Nat.reduceLT, Nat.reduceLeDiff, Nat.reduceMul, Nat.reduceSub, reduceIte]
  rw [ev_loop]
  refine Eq.trans (loop_list (Q := fun (_ : Unit) x => thenEnd E.P [] _ 0 (thenEv E _ _ _ _ _ (outOf 0 x)) = some (.int .i64 (z + ((sumG ruleW s : Nat) : Int)), [])) (mksG ruleMk ruleW z s) (fun _ _ _ => .inr ()) id
    (fun i _ => { sl := [(0, .sl fl ((mksG ruleMk ruleW z s).map (Rule.enc fl))), (1, .int .i64 (Zat ruleW z s i)), (5, .int .i64 (i : Nat))], bx := [], nx := 0, nt := 80 }) (fun _ _ => True) () ?_ ?_ (by omega) trivial ?_) ?_
  · intro _ _
    simp -implicitDefEqProofs only [W2, ↓D2, ↓DC, QX, hl, Zat_end, Int.reduceToNat, id_eq, Int.reduceBEq, Int.reduceLE, Int.reduceLT, leaf_some, isNormal, Nat.reduceAdd, Nat.reduceEqDiff, Nat.reduceLT, Nat.reduceLeDiff, Nat.reduceMul, Nat.reduceSub, reduceIte]
    repeat' (split <;> (rename_i h; (try simp -implicitDefEqProofs only [Bool.not_eq_true', Bool.not_eq_false', decide_eq_true_eq, decide_eq_false_iff_not] at h); (try simp -implicitDefEqProofs only [W2, ↓D2, ↓DC, QX, *, hl, Zat_end, Int.reduceToNat, id_eq, Int.reduceBEq, Int.reduceLE, Int.reduceLT, leaf_some, isNormal, Nat.reduceAdd, Nat.reduceEqDiff, Nat.reduceLT, Nat.reduceLeDiff, Nat.reduceMul, Nat.reduceSub, reduceIte])))
  · intro pre x r b hs' _
    obtain ⟨y, hy, _, hxe, hsucc⟩ := mksG_at hs'
    have hx := (at_row hs' hs).1; have hc := (at_row hs' hs).2.1; have hlt := (at_row hs' hs).2.2.1; have hw1 := (at_row hs' hs).2.2.2.1; have hl9 := (at_row hs' hs).2.2.2.2
    have hle := Zat_le (W := ruleW) (z := z) (s := s) (i := pre.length)
    have hle1 := Zat_le (W := ruleW) (z := z) (s := s) (i := pre.length + 1)
    clear hs' hc
    subst hxe
    rw [hsucc] at hle1
    rw [show ruleW y = 6 + sumG condW y.cond.args from rfl] at hsucc hle1
    have c2 := c1 y hy (Zat ruleW z s pre.length + 6) (by omega)
    generalize Zat ruleW z s pre.length = Z at *
    have hw2 : IntKind.i64.wrap (Z + 1) = Z + 1 := IntWalk.i64_in _ (by omega)
    have hw3 : IntKind.i64.wrap (Z + 1 + 1) = Z + 2 := by rw [IntWalk.i64_in _ (by omega)]; omega
    have hw4 : IntKind.i64.wrap (Z + 2 + 1) = Z + 3 := by rw [IntWalk.i64_in _ (by omega)]; omega
    have hw5 : IntKind.i64.wrap (Z + 3 + 1) = Z + 4 := by rw [IntWalk.i64_in _ (by omega)]; omega
    have hw6 : IntKind.i64.wrap (Z + 4 + 1) = Z + 5 := by rw [IntWalk.i64_in _ (by omega)]; omega
    have hw7 : IntKind.i64.wrap (Z + 5 + 1) = Z + 6 := by rw [IntWalk.i64_in _ (by omega)]; omega
    have hfin : Z + 6 + ((sumG condW y.cond.args : Nat) : Int) = Zat ruleW z s (pre.length + 1) := by rw [hsucc]; omega
    have hneg : decide (Zat ruleW z s (pre.length + 1) < 0) = false := by rw [hsucc]; exact decide_eq_false (by omega)
    rw [hfin] at c2
    simp -implicitDefEqProofs only [W2, ↓D2, ↓DC, QX, enc_mkR, hx, hlt, hw1, hw2, hw3, hw4, hw5, hw6, hw7, c2, hneg, bne, keep_18_2, leaf_some, isNormal, Int.reduceToNat, id_eq, Int.reduceBEq, Int.reduceLE, Int.reduceLT, Nat.reduceAdd, Nat.reduceEqDiff, Nat.reduceLT, Nat.reduceLeDiff, Nat.reduceMul, Nat.reduceSub, reduceIte]
    repeat' (split <;> (rename_i h; (try simp -implicitDefEqProofs only [Bool.not_eq_true', Bool.not_eq_false', decide_eq_true_eq, decide_eq_false_iff_not] at h); (try simp -implicitDefEqProofs only [W2, ↓D2, ↓DC, QX, *, enc_mkR, hx, hlt, hw1, hw2, hw3, hw4, hw5, hw6, hw7, c2, hneg, bne, keep_18_2, leaf_some, isNormal, Int.reduceToNat, id_eq, Int.reduceBEq, Int.reduceLE, Int.reduceLT, Nat.reduceAdd, Nat.reduceEqDiff, Nat.reduceLT, Nat.reduceLeDiff, Nat.reduceMul, Nat.reduceSub, reduceIte])))
  · simp -implicitDefEqProofs only [firstRegion]
    rw [keep_18_2]
    simp -implicitDefEqProofs only [W2, ↓D2, ↓DC, Zat_zero, Int.reduceToNat, id_eq, Int.reduceBEq, Int.reduceLE, Int.reduceLT, Nat.reduceAdd, Nat.reduceEqDiff, Nat.reduceLT, Nat.reduceLeDiff, Nat.reduceMul, Nat.reduceSub, reduceIte]
  · rfl
theorem r_laws_markPolicy (k : Nat) (p : Policy) (hk : 281474976710656 + 4 * p.w + 3 ≤ k) (z : Int) (hz : 0 ≤ z ∧ z + (sumG ruleW p.rules : Nat) ≤ 4398046511104) :
    run E noExt k 9 [p.encT, .int .i64 z] [] = some (.int .i64 (z + ((sumG ruleW p.rules : Nat) : Int)), [[({ p with rules := mksG ruleMk ruleW z p.rules } : Policy).encT]]) := by
  unfold Policy.w at hk
  have c1 := r_laws_markRuleS (k - 1) p.rules (by omega) z hz
  have hsc := tscals_Rule (mksG ruleMk ruleW z p.rules)
  obtain ⟨k, rfl⟩ : ∃ j, k = j + 1 := ⟨k - 1, by omega⟩
  rw [run_succ rfl rfl, body_eq (nt := 10) (fn := Go.Proofs.Try.f9) (by kernel_rfl) rfl rfl rfl rfl rfl rfl rfl rfl]
  simp -implicitDefEqProofs only [Nat.add_sub_cancel] at c1
  simp -implicitDefEqProofs only [W3, ↓D3, ↓DA, ↓DP, ↓DC, Go.Proofs.Try.f9, Policy.encT, c1, hsc, Int.reduceToNat, id_eq, Int.reduceBEq, Int.reduceLE, Int.reduceLT, look_cons, reduceCtorEq, evCall_mutOwn, evCall_mutAgg, evGive, giveRows, ioBoxes, mutArgs, roArgs, handArg, mutSlots, isPtrB, pairs, pairss, back_nil, back_cons, backO, backE, setBoxes, importB, mode_mut, mode_give, mode_io, mode_ro, List.zip_cons_cons, List.zip_nil_left, List.zip_nil_right, ite_self, ite_true, ite_false, finish_give, finish_mut1, finish_io0, finish_io1, finish_io2, finish_io3, finish_ioc, finI, finC, finW_ptr, SH, Nat.reduceAdd, Nat.reduceEqDiff, Nat.reduceLT, Nat.reduceLeDiff, Nat.reduceMul, Nat.reduceSub, reduceIte]
  rw [finish_mut1 rfl]
  simp -implicitDefEqProofs only [W3, ↓D3, ↓DA, ↓DP, ↓DC, finC, Int.reduceToNat, id_eq, Int.reduceBEq, Int.reduceLE, Int.reduceLT, SH, Nat.reduceAdd, Nat.reduceEqDiff, Nat.reduceLT, Nat.reduceLeDiff, Nat.reduceMul, Nat.reduceSub, reduceIte]
theorem r_laws_heldPolicy {fl : Bool} (k : Nat) (p : Policy) (hk : 281474976710656 + 4 * p.w + 3 ≤ k) (z : Int) (hz : 0 ≤ z ∧ z + (sumG ruleW p.rules : Nat) ≤ 4398046511104) :
    run E noExt k 10 [({ p with rules := mksG ruleMk ruleW z p.rules } : Policy).enc fl, .int .i64 z] [] = some (.int .i64 (z + ((sumG ruleW p.rules : Nat) : Int)), []) := by
  unfold Policy.w at hk
  have c1 := r_laws_heldRuleS (fl := fl) (k - 1) p.rules (by omega) z hz
  have hneg : decide ((z + ((sumG ruleW p.rules : Nat) : Int)) < 0) = false := decide_eq_false (by omega)
  obtain ⟨k, rfl⟩ : ∃ j, k = j + 1 := ⟨k - 1, by omega⟩
  rw [run_succ rfl rfl, body_eq (nt := 12) (fn := Go.Proofs.Try.f10) (by kernel_rfl) rfl rfl rfl rfl rfl rfl rfl rfl]
  simp -implicitDefEqProofs only [Nat.add_sub_cancel] at c1
  simp -implicitDefEqProofs only [W3, ↓D3, ↓DA, ↓DP, ↓DC, Go.Proofs.Try.f10, enc_Policy, c1, hneg, ifEv_bool, Int.reduceToNat, id_eq, Int.reduceBEq, Int.reduceLE, Int.reduceLT, SH, Nat.reduceAdd, Nat.reduceEqDiff, Nat.reduceLT, Nat.reduceLeDiff, Nat.reduceMul, Nat.reduceSub, reduceIte]
end Go.Proofs.Ytkolknigffoleaa.Flat
