/-
Numbers as text.
-/
import Derived.Test.YtaojmienjikfbaaGreatDoorEqE
import Derived.Test.YtaojmienjikfbaaGreatDoorFlatM4
import Derived.Test.YtaojmienjikfbaaGreatDoorEqEY
set_option linter.unusedVariables false
set_option linter.unusedSimpArgs false
set_option maxRecDepth 10000
namespace Go.Proofs.YtaojmienjikfbaaGreatDoor.Flat
open Go.Lib
def decS (x : Nat) : ByteArray := if x = 0 then ByteArray.empty else digitsB x
def digB (d : Nat) : ByteArray := ⟨#[UInt8.ofNat (48 + d)]⟩
theorem byteArray_eq {a b : ByteArray} (h : a.data.toList = b.data.toList) : a = b := by
  cases a; cases b
  congr 1
  exact Array.toList_inj.1 h
theorem data_append {a b : ByteArray} : (a ++ b).data.toList = a.data.toList ++ b.data.toList := by simp
theorem digitsB_data (x : Nat) : (digitsB x).data.toList = decDigits x := by simp [digitsB]
theorem decS_step {x : Nat} (h : x ≠ 0) : decS x = decS (x / 10) ++ digB (x % 10) := by
  refine byteArray_eq ?_
  rw [data_append]
  unfold decS digB
  rw [if_neg h, digitsB_data]
  by_cases hx : x < 10
  · rw [if_pos (by omega), decDigits, dif_pos hx, Nat.mod_eq_of_lt hx]; simp
  · rw [if_neg (by omega), digitsB_data]
    conv => lhs; rw [decDigits, dif_neg hx]
theorem decS_size : ∀ (j x : Nat), x < 10 ^ j → (decS x).size ≤ j
  | 0, x, h => by
    obtain rfl : x = 0 := by simpa using h
    simp [decS]
  | j + 1, x, h => by
    by_cases hx : x = 0
    · subst hx; simp [decS]
    · rw [decS_step hx, ByteArray.size_append]
      have := decS_size j (x / 10) (by rw [Nat.pow_succ] at h; omega)
      have e : (digB (x % 10)).size = 1 := rfl
      omega
theorem str_add {P : Program} {t : TypeId} {a b : ByteArray} (h : (((a.size + b.size : Nat) : Int) > IntKind.max .i64) = False) : evBin2 P .add t (.str a) (.str b) = some (.str (a ++ b)) := by
  simp -implicitDefEqProofs only [evBin2, evBin, evStr, h, if_false]
theorem r_itoa (k : Nat) (hk : 1 ≤ k) (n : Nat) (hn : n < 100) : run E noExt k 59 [.int .i64 (n : Nat)] [] = some (.str (digitsB n), []) := by
  obtain ⟨k, rfl⟩ : ∃ j, k = j + 1 := ⟨k - 1, by omega⟩
  simp -implicitDefEqProofs only [run, ext_59, itoaExt]
  rw [if_pos ⟨by omega, by omega⟩, Int.toNat_natCast]
theorem r_impl_FormatInt (k : Nat) (hk : 3 ≤ k) (n : Nat) (hn : n < 100) : run E noExt k 34 [.int .i64 (n : Nat)] [] = some (.str (digitsB n), []) := by
  have c0 := r_itoa (k - 1) (by omega) n hn
  obtain ⟨k, rfl⟩ : ∃ j, k = j + 1 := ⟨k - 1, by omega⟩
  rw [run_succ rfl rfl, body_eq (nt := 5) (fn := Go.Proofs.Tryz.f34) (by kernel_rfl) rfl rfl rfl rfl rfl rfl rfl rfl]
  simp -implicitDefEqProofs only [Nat.add_sub_cancel] at c0
  simp -implicitDefEqProofs only [W3, ↓D3, ↓DA, ↓DP, ↓DC, Go.Proofs.Tryz.f34, c0, Int.reduceToNat, id_eq, Int.reduceBEq, Int.reduceLE, Int.reduceLT, SH, Nat.reduceAdd, Nat.reduceEqDiff, Nat.reduceLT, Nat.reduceLeDiff, Nat.reduceMul, Nat.reduceSub, reduceIte]
def badB : ByteArray := ⟨#[98, 97, 100]⟩
def noneB : ByteArray := ⟨#[110, 111, 110, 101]⟩
def denyB : ByteArray := ⟨#[100, 101, 110, 121, 32]⟩
def permitB : ByteArray := ⟨#[112, 101, 114, 109, 105, 116, 32]⟩
def wordB (e : Int) : ByteArray := if e = 0 then denyB else permitB
def effIs (rules : List Rule) (e : Int) (z : Int) : Bool := (rules.getD z.toNat default).effect == e
def effStep (rules : List Rule) (e : Int) (_ : Nat) (z : Int) (_ : Unit) : Sum (Option Int) Unit := if effIs rules e z = true then .inl (some z) else .inr ()
theorem effLoop (rules : List Rule) (e : Int) : ∀ (h : List Int) (i : Nat), loopL (effStep rules e) (fun _ => none) i h () = h.find? (effIs rules e)
  | [], i => rfl
  | z :: h, i => by
    simp -implicitDefEqProofs only [loopL, effStep, List.find?_cons]
    cases effIs rules e z with
    | true => rfl
    | false => simp -implicitDefEqProofs only [Bool.false_eq_true, if_false]; exact effLoop rules e h (i + 1)
def reasonL (rules : List Rule) (h : List Int) : ByteArray := match h.find? (effIs rules 0) with
  | some z => denyB ++ digitsB z.toNat
  | none => match h with
    | [] => noneB
    | z :: _ => permitB ++ digitsB z.toNat
noncomputable def reasonOf (l : List Includes) (s : List Fact) (p : Policy) (q : Request) : ByteArray := if (isRequest q && isPolicy p) = true then reasonL p.rules (holdL (ruleAt l s q) 0 p.rules) else badB
theorem dig_size {n : Nat} (h : n < 100) : (digitsB n).size ≤ 2 := by
  by_cases h0 : n = 0
  · subst h0
    have : (digitsB 0).size = (digitsB 0).data.toList.length := rfl
    rw [this, digitsB_data, Go.Lib.decDigits, dif_pos (by decide)]; simp
  · have := decS_size 2 n (by omega)
    unfold decS at this
    rw [if_neg h0] at this
    exact this
theorem word_fits {a : ByteArray} {n : Nat} (ha : a.size ≤ 9) (h : n < 100) : (((a.size + (digitsB n).size : Nat) : Int) > IntKind.max .i64) = False := by
  have := dig_size h
  have e : IntKind.max .i64 = 9223372036854775807 := rfl
  rw [e]
  exact eq_false (by omega)
theorem pol_rules {p : Policy} (hb : isPolicy p = true) : p.rules.length ≤ 8 ∧ ∀ r ∈ p.rules, r.effect = 0 ∨ r.effect = 1 := by
  unfold isPolicy at hb
  simp -implicitDefEqProofs only [Bool.and_eq_true, List.all_eq_true, decide_eq_true_eq] at hb
  refine ⟨by omega, fun r hr => ?_⟩
  have := hb.2 r hr
  unfold isRule at this
  simp -implicitDefEqProofs only [Bool.and_eq_true, inR, decide_eq_true_eq] at this
  omega
def outR (rules : List Rule) (h : List Int) (_ : Nat) (e : Int) (_ : Unit) : Sum ByteArray Unit := match h.find? (effIs rules e) with
  | some z => .inl (wordB e ++ digitsB z.toNat)
  | none => .inr ()
theorem outLoop (rules : List Rule) (h : List Int) (hr : ∀ r ∈ rules, r.effect = 0 ∨ r.effect = 1) (hm : ∀ z ∈ h, ∃ j, z = ((j : Nat) : Int) ∧ j < rules.length) : loopL (outR rules h) (fun _ => noneB) 0 [0, 1] () = reasonL rules h := by
  unfold reasonL
  simp -implicitDefEqProofs only [loopL, outR]
  cases h0 : h.find? (effIs rules 0) with
  | some z => simp [wordB]
  | none =>
    simp only
    cases h with
    | nil => simp
    | cons z h =>
      obtain ⟨j, rfl, hj⟩ := hm z (by simp)
      have h1 : effIs rules 0 ((j : Nat) : Int) = false := by
        have := List.find?_eq_none.1 h0 _ List.mem_cons_self
        simpa using this
      have h2 : effIs rules 1 ((j : Nat) : Int) = true := by
        unfold effIs at h1 ⊢
        have hg : rules.getD (((j : Nat) : Int)).toNat default = rules[j] := by simp [List.getD_eq_getElem?_getD, List.getElem?_eq_getElem hj]
        rw [hg] at h1 ⊢
        rcases hr _ (List.getElem_mem hj) with e | e
        · rw [e] at h1; simp at h1
        · rw [e]; rfl
      simp [List.find?_cons, h2, wordB]
def Held (p : Prop) : Prop := p
theorem Held.get {p : Prop} (h : Held p) : p := h
theorem leaf_abs {x : Option (Exit × St)} {P : Exit → St → Prop} (h : ∀ PP, Held (PP = P) → Leaf x PP) : Leaf x P := h P rfl
set_option maxHeartbeats 4000000 in
theorem r_impl_ReasonOf {fl f2 f3 f4 : Bool} (k : Nat) (hk : 884940186000000 + 16 ≤ k) (l : List Includes) (hl : l.length ≤ 140737488355328) (s : List Fact) (hs : s.length ≤ 1099511627776) (p : Policy) (hp : p.w ≤ 1099511627776) (q : Request) :
    run E noExt k 13 [.sl fl (l.map (Includes.enc fl)), .sl f2 (s.map (Fact.enc f2)), p.enc f3, q.enc f4] [] = some (.str (reasonOf l s p q), []) := by
  have hp0 := hp
  unfold Policy.w at hp0
  have hs1 := Nat.le_trans (wl_length _ p.rules) hp0
  have hh := holdL_length (ruleAt l s q) p.rules 0
  have c1 := r_impl_IsRequest (fl := f4) (k - 1) (by omega) q
  have c2 := r_impl_IsPolicy (fl := f3) (k - 1) (by omega) p hp
  have c3 := r_impl_RulesThatHold (fl := fl) (f2 := f2) (f3 := f3) (f4 := f4) (k - 1) (by omega) l hl s hs p hp q
  have c4 : ∀ n < 100, run E noExt (k - 1) 34 [.int .i64 ((n : Nat) : Int)] [] = some (.str (digitsB n), []) := fun n hn => r_impl_FormatInt (k - 1) (by omega) n (by omega)
  have hm : ∀ z ∈ holdL (ruleAt l s q) 0 p.rules, ∃ j, z = ((j : Nat) : Int) ∧ j < p.rules.length := fun z hz => by
    obtain ⟨j, h1, h2⟩ := holdL_mem _ _ _ _ hz
    exact ⟨j, by simpa using h1, h2⟩
  unfold reasonOf
  obtain ⟨k, rfl⟩ : ∃ j, k = j + 1 := ⟨k - 1, by omega⟩
  rw [run_succ rfl rfl, body_eq (nt := 55) (fn := Go.Proofs.Tryz.f13) (by kernel_rfl) rfl rfl rfl rfl rfl rfl rfl rfl]
  simp -implicitDefEqProofs only [Nat.add_sub_cancel, enc_Policy, enc_Request] at c1 c2 c3 c4
  generalize isRequest q = b1 at c1 ⊢
  generalize hb2 : isPolicy p = b2 at c2 ⊢
  cases b1 with
  | false => simp -implicitDefEqProofs only [W3, ↓D3, ↓DA, ↓DP, ↓DC, QX, Go.Proofs.Tryz.f13, badB, enc_Policy, enc_Request, c1, c2, SH, Int.reduceToNat, id_eq, Int.reduceBEq, Int.reduceLE, Int.reduceLT, Nat.reduceAdd, Nat.reduceEqDiff, Nat.reduceLT, Nat.reduceLeDiff, Nat.reduceMul, Nat.reduceSub, reduceIte]
  | true =>
    cases b2 with
    | false => simp -implicitDefEqProofs only [W3, ↓D3, ↓DA, ↓DP, ↓DC, QX, Go.Proofs.Tryz.f13, badB, enc_Policy, enc_Request, c1, c2, SH, Int.reduceToNat, id_eq, Int.reduceBEq, Int.reduceLE, Int.reduceLT, Nat.reduceAdd, Nat.reduceEqDiff, Nat.reduceLT, Nat.reduceLeDiff, Nat.reduceMul, Nat.reduceSub, reduceIte]
    | true =>
      obtain ⟨hr8, hr⟩ := pol_rules hb2
      generalize holdL (ruleAt l s q) 0 p.rules = h at hm hh c3 ⊢
      have hs9 : h.length ≤ 140737488355328 := by omega
      have hfin := outLoop p.rules h hr hm
      simp -implicitDefEqProofs only [W4, ↓D4, ↓DA, ↓DP, ↓DC, QX, Go.Proofs.Tryz.f13, enc_Policy, enc_Request, c1, c2, c3, Bool.and_self, SH, dedup, nodupB, idx, AV.rows, AV.rowss, AV.mapO, AV.mapOs, Int.reduceToNat, id_eq, Int.reduceBEq, Int.reduceLE, Int.reduceLT, Nat.reduceAdd, Nat.reduceEqDiff, Nat.reduceLT, Nat.reduceLeDiff, Nat.reduceMul, Nat.reduceSub, reduceIte]
      rw [← hfin, ev_loop]
      refine loop_list (Q := fun g x => thenEnd E.P [] _ 0 (thenEv E _ _ _ _ _ (outOf 0 x)) = some (.str g, [])) ([0, 1] : List Int) (outR p.rules h) (fun _ => noneB)
        (fun i _ => { sl := [(6, .ptr 0 0), (9, .own 0 false 3 1 (h.map (AV.int .i64))), (27, .own 1 false 3 1 [.int .i64 0, .int .i64 1]), (28, .int .i64 ((2 : Nat) : Int)), (29, .int .i64 (i : Nat))],
                      bx := [(0, [.int .i64 p.version, .sl f3 (p.rules.map (Rule.enc f3))])], nx := 3, nt := 55 }) (fun _ _ => True) () ?_ ?_ (by simp -implicitDefEqProofs only [List.length_cons, List.length_nil]; omega) trivial ?_
      · intro b _
        simp -implicitDefEqProofs only [W3, ↓D3, ↓DA, ↓DP, ↓DC, QX, noneB, SH, leaf_some, isNormal, Int.reduceToNat, id_eq, Int.reduceBEq, Int.reduceLE, Int.reduceLT, Nat.reduceAdd, Nat.reduceEqDiff, Nat.reduceLT, Nat.reduceLeDiff, Nat.reduceMul, Nat.reduceSub, reduceIte]
        repeat' (split <;> (rename_i h; (try simp -implicitDefEqProofs only [Bool.not_eq_true', Bool.not_eq_false', decide_eq_true_eq, decide_eq_false_iff_not] at h); (try simp -implicitDefEqProofs only [W3, ↓D3, ↓DA, ↓DP, ↓DC, QX, *, noneB, SH, leaf_some, isNormal, Int.reduceToNat, id_eq, Int.reduceBEq, Int.reduceLE, Int.reduceLT, Nat.reduceAdd, Nat.reduceEqDiff, Nat.reduceLT, Nat.reduceLeDiff, Nat.reduceMul, Nat.reduceSub, reduceIte])))
      · intro pre e r b hs' _
        have hcase : (pre = [] ∧ e = 0) ∨ (pre = [0] ∧ e = 1) := by
          cases pre with
          | nil => exact .inl ⟨rfl, (List.cons.inj hs').1.symm⟩
          | cons a pre =>
            obtain ⟨rfl, h2⟩ := List.cons.inj hs'
            cases pre with
            | nil => exact .inr ⟨rfl, (List.cons.inj h2).1.symm⟩
            | cons b pre =>
              obtain ⟨rfl, h3⟩ := List.cons.inj h2
              simp at h3
        clear hs'
        refine leaf_abs fun PP hPP => ?_
        rcases hcase with ⟨rfl, rfl⟩ | ⟨rfl, rfl⟩
        · have hl0 : decide ((0 : Int) < ((2 : Nat) : Int)) = true := rfl
          have hl1 : ((0 : Int) < ((2 : Nat) : Int)) = True := eq_true (by decide)
          have hl2 : decide (((0 : Nat) : Int) < ((2 : Nat) : Int)) = true := rfl
          have hl3 : (((0 : Nat) : Int) < ((2 : Nat) : Int)) = True := eq_true (by decide)
          have hl4 : ((0 : Nat) : Int) = 0 := rfl
          have h10 : ((1 : Int) = 0) = False := by simp
          have hw9 : IntKind.i64.wrap (0 + 1) = ((1 : Nat) : Int) := rfl
          simp -implicitDefEqProofs only [W4, ↓D4, ↓DA, ↓DP, ↓DC, leaf_some, isNormal, ifEv_bool, hl0, hl1, hl2, hl3, hl4, Int.reduceLT, SH, dedup, nodupB, idx, AV.rows, AV.rowss, AV.mapO, AV.mapOs, Int.reduceToNat, id_eq, Int.reduceBEq, Int.reduceLE, Nat.reduceAdd, Nat.reduceEqDiff, Nat.reduceLT, Nat.reduceLeDiff, Nat.reduceMul, Nat.reduceSub, reduceIte]
          rw [ev_loop]
          refine loop_list (Q := fun g z => g = h.find? (effIs p.rules 0) → Leaf (thenEv E _ _ _ _ _ (outOf 1 (outOf 2 z))) PP) h (effStep p.rules 0) (fun _ => none)
            (fun i _ => { sl := [(6, .ptr 0 0), (9, .own 0 false 3 1 (h.map (AV.int .i64))), (11, .int .i64 0), (27, .own 1 false 3 1 [.int .i64 0, .int .i64 1]), (28, .int .i64 ((2 : Nat) : Int)), (29, .int .i64 0), (33, .own 0 false 3 1 (h.map (AV.int .i64))), (34, .int .i64 (h.length : Nat)), (35, .int .i64 (i : Nat))], bx := [(0, [.int .i64 p.version, .sl f3 (p.rules.map (Rule.enc f3))])], nx := 3, nt := 55 }) (fun _ _ => True) () ?_ ?_ (by omega) trivial ?_ (effLoop p.rules 0 h 0)
          · intro u _
            simp -implicitDefEqProofs only [W3, ↓D3, ↓DA, ↓DP, ↓DC, QX, SH, leaf_some, isNormal, Int.reduceToNat, id_eq, Int.reduceBEq, Int.reduceLE, Int.reduceLT, Nat.reduceAdd, Nat.reduceEqDiff, Nat.reduceLT, Nat.reduceLeDiff, Nat.reduceMul, Nat.reduceSub, reduceIte]
            repeat' (split <;> (rename_i h; (try simp -implicitDefEqProofs only [Bool.not_eq_true', Bool.not_eq_false', decide_eq_true_eq, decide_eq_false_iff_not] at h); (try simp -implicitDefEqProofs only [W3, ↓D3, ↓DA, ↓DP, ↓DC, QX, *, SH, leaf_some, isNormal, Int.reduceToNat, id_eq, Int.reduceBEq, Int.reduceLE, Int.reduceLT, Nat.reduceAdd, Nat.reduceEqDiff, Nat.reduceLT, Nat.reduceLeDiff, Nat.reduceMul, Nat.reduceSub, reduceIte])))
            intro he
            rw [hPP.get]
            simp -implicitDefEqProofs only [outR, ← he]
            simp -implicitDefEqProofs only [W3, ↓D3, ↓DA, ↓DP, ↓DC, QX, hw9, SH, keep_13_5, leaf_some, isNormal, Int.reduceToNat, id_eq, Int.reduceBEq, Int.reduceLE, Int.reduceLT, Nat.reduceAdd, Nat.reduceEqDiff, Nat.reduceLT, Nat.reduceLeDiff, Nat.reduceMul, Nat.reduceSub, reduceIte]
            repeat' (split <;> (rename_i h; (try simp -implicitDefEqProofs only [Bool.not_eq_true', Bool.not_eq_false', decide_eq_true_eq, decide_eq_false_iff_not] at h); (try simp -implicitDefEqProofs only [W3, ↓D3, ↓DA, ↓DP, ↓DC, QX, *, hw9, SH, keep_13_5, leaf_some, isNormal, Int.reduceToNat, id_eq, Int.reduceBEq, Int.reduceLE, Int.reduceLT, Nat.reduceAdd, Nat.reduceEqDiff, Nat.reduceLT, Nat.reduceLeDiff, Nat.reduceMul, Nat.reduceSub, reduceIte])))
          · intro pre c r u hs' _
            have hx := (at_row hs' hs9).1; have hc := (at_row hs' hs9).2.1; have hlt := (at_row hs' hs9).2.2.1; have hw1 := (at_row hs' hs9).2.2.2.1; have hl9 := (at_row hs' hs9).2.2.2.2
            clear hs'
            obtain ⟨j, rfl, hj⟩ := hm c hc
            have c5 := c4 j (by omega)
            have hrr : p.rules[j]? = some (p.rules.getD j default) := by
              rw [List.getD_eq_getElem?_getD, List.getElem?_eq_getElem hj]; rfl
            have hf : (((ByteArray.mk #[100, 101, 110, 121, 32]).size + (digitsB j).size : Nat) > IntKind.max .i64) = False := word_fits (by decide) (by omega)
            have hef : effIs p.rules 0 ((j : Nat) : Int) = ((p.rules.getD j default).effect == 0) := rfl
            cases e0 : ((p.rules.getD j default).effect == 0)
            ·
              simp -implicitDefEqProofs only [W3, ↓D3, ↓DA, ↓DP, ↓DC, QX, enc_Rule, hx, hlt, hw1, hrr, hef, e0, effStep, SH, keep_13_8, leaf_some, isNormal, Int.reduceToNat, id_eq, Int.reduceBEq, Int.reduceLE, Int.reduceLT, Nat.reduceAdd, Nat.reduceEqDiff, Nat.reduceLT, Nat.reduceLeDiff, Nat.reduceMul, Nat.reduceSub, reduceIte]
              repeat' (split <;> (rename_i h; (try simp -implicitDefEqProofs only [Bool.not_eq_true', Bool.not_eq_false', decide_eq_true_eq, decide_eq_false_iff_not] at h); (try simp -implicitDefEqProofs only [W3, ↓D3, ↓DA, ↓DP, ↓DC, QX, *, enc_Rule, hx, hlt, hw1, hrr, hef, e0, effStep, SH, keep_13_8, leaf_some, isNormal, Int.reduceToNat, id_eq, Int.reduceBEq, Int.reduceLE, Int.reduceLT, Nat.reduceAdd, Nat.reduceEqDiff, Nat.reduceLT, Nat.reduceLeDiff, Nat.reduceMul, Nat.reduceSub, reduceIte])))
            ·
              simp -implicitDefEqProofs only [W3, ↓D3, ↓DA, ↓DP, ↓DC, QX, hl0, hl1, hl2, hl3, enc_Rule, hx, hlt, hw1, hrr, hef, e0, c5, hf, str_add, effStep, op_index, opP_index, evIndex, plan_13_11, SH, leaf_some, isNormal, Int.reduceToNat, id_eq, Int.reduceBEq, Int.reduceLE, Int.reduceLT, Nat.reduceAdd, Nat.reduceEqDiff, Nat.reduceLT, Nat.reduceLeDiff, Nat.reduceMul, Nat.reduceSub, reduceIte]
              repeat' (split <;> (rename_i h; (try simp -implicitDefEqProofs only [Bool.not_eq_true', Bool.not_eq_false', decide_eq_true_eq, decide_eq_false_iff_not] at h); (try simp -implicitDefEqProofs only [W3, ↓D3, ↓DA, ↓DP, ↓DC, QX, *, hl0, hl1, hl2, hl3, enc_Rule, hx, hlt, hw1, hrr, hef, e0, c5, hf, str_add, effStep, op_index, opP_index, evIndex, plan_13_11, SH, leaf_some, isNormal, Int.reduceToNat, id_eq, Int.reduceBEq, Int.reduceLE, Int.reduceLT, Nat.reduceAdd, Nat.reduceEqDiff, Nat.reduceLT, Nat.reduceLeDiff, Nat.reduceMul, Nat.reduceSub, reduceIte])))
              intro he
              rw [hPP.get]
              simp -implicitDefEqProofs only [outR, ← he]
              simp -implicitDefEqProofs only [W3, ↓D3, ↓DA, ↓DP, ↓DC, QX, h10, wordB, denyB, permitB, SH, leaf_some, isNormal, Int.reduceToNat, id_eq, Int.reduceBEq, Int.reduceLE, Int.reduceLT, Nat.reduceAdd, Nat.reduceEqDiff, Nat.reduceLT, Nat.reduceLeDiff, Nat.reduceMul, Nat.reduceSub, reduceIte]
              repeat' (split <;> (rename_i h; (try simp -implicitDefEqProofs only [Bool.not_eq_true', Bool.not_eq_false', decide_eq_true_eq, decide_eq_false_iff_not] at h); (try simp -implicitDefEqProofs only [W3, ↓D3, ↓DA, ↓DP, ↓DC, QX, *, h10, wordB, denyB, permitB, SH, leaf_some, isNormal, Int.reduceToNat, id_eq, Int.reduceBEq, Int.reduceLE, Int.reduceLT, Nat.reduceAdd, Nat.reduceEqDiff, Nat.reduceLT, Nat.reduceLeDiff, Nat.reduceMul, Nat.reduceSub, reduceIte])))
          · simp -implicitDefEqProofs only [firstRegion]
            rw [keep_13_8]
            simp -implicitDefEqProofs only [W3, ↓D3, ↓DA, ↓DP, ↓DC, QX, SH, leaf_some, isNormal, Int.reduceToNat, id_eq, Int.reduceBEq, Int.reduceLE, Int.reduceLT, Nat.reduceAdd, Nat.reduceEqDiff, Nat.reduceLT, Nat.reduceLeDiff, Nat.reduceMul, Nat.reduceSub, reduceIte]
            repeat' (split <;> (rename_i h; (try simp -implicitDefEqProofs only [Bool.not_eq_true', Bool.not_eq_false', decide_eq_true_eq, decide_eq_false_iff_not] at h); (try simp -implicitDefEqProofs only [W3, ↓D3, ↓DA, ↓DP, ↓DC, QX, *, SH, leaf_some, isNormal, Int.reduceToNat, id_eq, Int.reduceBEq, Int.reduceLE, Int.reduceLT, Nat.reduceAdd, Nat.reduceEqDiff, Nat.reduceLT, Nat.reduceLeDiff, Nat.reduceMul, Nat.reduceSub, reduceIte])))
        · have hl0 : decide ((1 : Int) < ((2 : Nat) : Int)) = true := rfl
          have hl1 : ((1 : Int) < ((2 : Nat) : Int)) = True := eq_true (by decide)
          have hl2 : decide (((1 : Nat) : Int) < ((2 : Nat) : Int)) = true := rfl
          have hl3 : (((1 : Nat) : Int) < ((2 : Nat) : Int)) = True := eq_true (by decide)
          have hl4 : ((1 : Nat) : Int) = 1 := rfl
          have h10 : ((1 : Int) = 0) = False := by simp
          have hw9 : IntKind.i64.wrap (1 + 1) = ((2 : Nat) : Int) := rfl
          simp -implicitDefEqProofs only [W4, ↓D4, ↓DA, ↓DP, ↓DC, leaf_some, isNormal, ifEv_bool, hl0, hl1, hl2, hl3, hl4, Int.reduceLT, SH, dedup, nodupB, idx, AV.rows, AV.rowss, AV.mapO, AV.mapOs, Int.reduceToNat, id_eq, Int.reduceBEq, Int.reduceLE, Nat.reduceAdd, Nat.reduceEqDiff, Nat.reduceLT, Nat.reduceLeDiff, Nat.reduceMul, Nat.reduceSub, reduceIte]
          rw [ev_loop]
          refine loop_list (Q := fun g z => g = h.find? (effIs p.rules 1) → Leaf (thenEv E _ _ _ _ _ (outOf 1 (outOf 2 z))) PP) h (effStep p.rules 1) (fun _ => none)
            (fun i _ => { sl := [(6, .ptr 0 0), (9, .own 0 false 3 1 (h.map (AV.int .i64))), (11, .int .i64 1), (27, .own 1 false 3 1 [.int .i64 0, .int .i64 1]), (28, .int .i64 ((2 : Nat) : Int)), (29, .int .i64 1), (33, .own 0 false 3 1 (h.map (AV.int .i64))), (34, .int .i64 (h.length : Nat)), (35, .int .i64 (i : Nat))], bx := [(0, [.int .i64 p.version, .sl f3 (p.rules.map (Rule.enc f3))])], nx := 3, nt := 55 }) (fun _ _ => True) () ?_ ?_ (by omega) trivial ?_ (effLoop p.rules 1 h 0)
          · intro u _
            simp -implicitDefEqProofs only [W3, ↓D3, ↓DA, ↓DP, ↓DC, QX, SH, leaf_some, isNormal, Int.reduceToNat, id_eq, Int.reduceBEq, Int.reduceLE, Int.reduceLT, Nat.reduceAdd, Nat.reduceEqDiff, Nat.reduceLT, Nat.reduceLeDiff, Nat.reduceMul, Nat.reduceSub, reduceIte]
            repeat' (split <;> (rename_i h; (try simp -implicitDefEqProofs only [Bool.not_eq_true', Bool.not_eq_false', decide_eq_true_eq, decide_eq_false_iff_not] at h); (try simp -implicitDefEqProofs only [W3, ↓D3, ↓DA, ↓DP, ↓DC, QX, *, SH, leaf_some, isNormal, Int.reduceToNat, id_eq, Int.reduceBEq, Int.reduceLE, Int.reduceLT, Nat.reduceAdd, Nat.reduceEqDiff, Nat.reduceLT, Nat.reduceLeDiff, Nat.reduceMul, Nat.reduceSub, reduceIte])))
            intro he
            rw [hPP.get]
            simp -implicitDefEqProofs only [outR, ← he]
            simp -implicitDefEqProofs only [W3, ↓D3, ↓DA, ↓DP, ↓DC, QX, hw9, SH, keep_13_5, leaf_some, isNormal, Int.reduceToNat, id_eq, Int.reduceBEq, Int.reduceLE, Int.reduceLT, Nat.reduceAdd, Nat.reduceEqDiff, Nat.reduceLT, Nat.reduceLeDiff, Nat.reduceMul, Nat.reduceSub, reduceIte]
            repeat' (split <;> (rename_i h; (try simp -implicitDefEqProofs only [Bool.not_eq_true', Bool.not_eq_false', decide_eq_true_eq, decide_eq_false_iff_not] at h); (try simp -implicitDefEqProofs only [W3, ↓D3, ↓DA, ↓DP, ↓DC, QX, *, hw9, SH, keep_13_5, leaf_some, isNormal, Int.reduceToNat, id_eq, Int.reduceBEq, Int.reduceLE, Int.reduceLT, Nat.reduceAdd, Nat.reduceEqDiff, Nat.reduceLT, Nat.reduceLeDiff, Nat.reduceMul, Nat.reduceSub, reduceIte])))
          · intro pre c r u hs' _
            have hx := (at_row hs' hs9).1; have hc := (at_row hs' hs9).2.1; have hlt := (at_row hs' hs9).2.2.1; have hw1 := (at_row hs' hs9).2.2.2.1; have hl9 := (at_row hs' hs9).2.2.2.2
            clear hs'
            obtain ⟨j, rfl, hj⟩ := hm c hc
            have c5 := c4 j (by omega)
            have hrr : p.rules[j]? = some (p.rules.getD j default) := by
              rw [List.getD_eq_getElem?_getD, List.getElem?_eq_getElem hj]; rfl
            have hf : (((ByteArray.mk #[112, 101, 114, 109, 105, 116, 32]).size + (digitsB j).size : Nat) > IntKind.max .i64) = False := word_fits (by decide) (by omega)
            have hef : effIs p.rules 1 ((j : Nat) : Int) = ((p.rules.getD j default).effect == 1) := rfl
            cases e0 : ((p.rules.getD j default).effect == 1)
            ·
              simp -implicitDefEqProofs only [W3, ↓D3, ↓DA, ↓DP, ↓DC, QX, enc_Rule, hx, hlt, hw1, hrr, hef, e0, effStep, SH, keep_13_8, leaf_some, isNormal, Int.reduceToNat, id_eq, Int.reduceBEq, Int.reduceLE, Int.reduceLT, Nat.reduceAdd, Nat.reduceEqDiff, Nat.reduceLT, Nat.reduceLeDiff, Nat.reduceMul, Nat.reduceSub, reduceIte]
              repeat' (split <;> (rename_i h; (try simp -implicitDefEqProofs only [Bool.not_eq_true', Bool.not_eq_false', decide_eq_true_eq, decide_eq_false_iff_not] at h); (try simp -implicitDefEqProofs only [W3, ↓D3, ↓DA, ↓DP, ↓DC, QX, *, enc_Rule, hx, hlt, hw1, hrr, hef, e0, effStep, SH, keep_13_8, leaf_some, isNormal, Int.reduceToNat, id_eq, Int.reduceBEq, Int.reduceLE, Int.reduceLT, Nat.reduceAdd, Nat.reduceEqDiff, Nat.reduceLT, Nat.reduceLeDiff, Nat.reduceMul, Nat.reduceSub, reduceIte])))
            ·
              simp -implicitDefEqProofs only [W3, ↓D3, ↓DA, ↓DP, ↓DC, QX, hl0, hl1, hl2, hl3, enc_Rule, hx, hlt, hw1, hrr, hef, e0, c5, hf, str_add, effStep, op_index, opP_index, evIndex, plan_13_11, SH, leaf_some, isNormal, Int.reduceToNat, id_eq, Int.reduceBEq, Int.reduceLE, Int.reduceLT, Nat.reduceAdd, Nat.reduceEqDiff, Nat.reduceLT, Nat.reduceLeDiff, Nat.reduceMul, Nat.reduceSub, reduceIte]
              repeat' (split <;> (rename_i h; (try simp -implicitDefEqProofs only [Bool.not_eq_true', Bool.not_eq_false', decide_eq_true_eq, decide_eq_false_iff_not] at h); (try simp -implicitDefEqProofs only [W3, ↓D3, ↓DA, ↓DP, ↓DC, QX, *, hl0, hl1, hl2, hl3, enc_Rule, hx, hlt, hw1, hrr, hef, e0, c5, hf, str_add, effStep, op_index, opP_index, evIndex, plan_13_11, SH, leaf_some, isNormal, Int.reduceToNat, id_eq, Int.reduceBEq, Int.reduceLE, Int.reduceLT, Nat.reduceAdd, Nat.reduceEqDiff, Nat.reduceLT, Nat.reduceLeDiff, Nat.reduceMul, Nat.reduceSub, reduceIte])))
              intro he
              rw [hPP.get]
              simp -implicitDefEqProofs only [outR, ← he]
              simp -implicitDefEqProofs only [W3, ↓D3, ↓DA, ↓DP, ↓DC, QX, h10, wordB, denyB, permitB, SH, leaf_some, isNormal, Int.reduceToNat, id_eq, Int.reduceBEq, Int.reduceLE, Int.reduceLT, Nat.reduceAdd, Nat.reduceEqDiff, Nat.reduceLT, Nat.reduceLeDiff, Nat.reduceMul, Nat.reduceSub, reduceIte]
              repeat' (split <;> (rename_i h; (try simp -implicitDefEqProofs only [Bool.not_eq_true', Bool.not_eq_false', decide_eq_true_eq, decide_eq_false_iff_not] at h); (try simp -implicitDefEqProofs only [W3, ↓D3, ↓DA, ↓DP, ↓DC, QX, *, h10, wordB, denyB, permitB, SH, leaf_some, isNormal, Int.reduceToNat, id_eq, Int.reduceBEq, Int.reduceLE, Int.reduceLT, Nat.reduceAdd, Nat.reduceEqDiff, Nat.reduceLT, Nat.reduceLeDiff, Nat.reduceMul, Nat.reduceSub, reduceIte])))
          · simp -implicitDefEqProofs only [firstRegion]
            rw [keep_13_8]
            simp -implicitDefEqProofs only [W3, ↓D3, ↓DA, ↓DP, ↓DC, QX, SH, leaf_some, isNormal, Int.reduceToNat, id_eq, Int.reduceBEq, Int.reduceLE, Int.reduceLT, Nat.reduceAdd, Nat.reduceEqDiff, Nat.reduceLT, Nat.reduceLeDiff, Nat.reduceMul, Nat.reduceSub, reduceIte]
            repeat' (split <;> (rename_i h; (try simp -implicitDefEqProofs only [Bool.not_eq_true', Bool.not_eq_false', decide_eq_true_eq, decide_eq_false_iff_not] at h); (try simp -implicitDefEqProofs only [W3, ↓D3, ↓DA, ↓DP, ↓DC, QX, *, SH, leaf_some, isNormal, Int.reduceToNat, id_eq, Int.reduceBEq, Int.reduceLE, Int.reduceLT, Nat.reduceAdd, Nat.reduceEqDiff, Nat.reduceLT, Nat.reduceLeDiff, Nat.reduceMul, Nat.reduceSub, reduceIte])))
      · simp -implicitDefEqProofs only [firstRegion]
        rw [keep_13_5]
        simp -implicitDefEqProofs only [W3, ↓D3, ↓DA, ↓DP, ↓DC, Int.reduceToNat, id_eq, Int.reduceBEq, Int.reduceLE, Int.reduceLT, SH, Nat.reduceAdd, Nat.reduceEqDiff, Nat.reduceLT, Nat.reduceLeDiff, Nat.reduceMul, Nat.reduceSub, reduceIte]
end Go.Proofs.YtaojmienjikfbaaGreatDoor.Flat
