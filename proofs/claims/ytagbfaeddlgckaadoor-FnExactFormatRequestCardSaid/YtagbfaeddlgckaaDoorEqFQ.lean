/-
Requests as text.
-/
import Derived.Test.YtagbfaeddlgckaaDoorEqB
set_option linter.unusedVariables false
set_option linter.unusedSimpArgs false
set_option maxRecDepth 10000
namespace Go.Proofs.YtagbfaeddlgckaaDoor.Flat
open Go.Lib
theorem itoaB_nat (n : Nat) : itoaB ((n : Nat) : Int) = digitsB n := by
  unfold itoaB digitsB
  unfold Lib.itoa
  rw [if_neg (by omega), Int.toNat_natCast]
theorem r_itoaA (k : Nat) (hk : 1 ≤ k) (n : Nat) (hn : n < 10 ^ 18) : run E noExt k 36 [.int .i64 (n : Nat)] [] = some (.str (digitsB n), []) := by
  obtain ⟨k, rfl⟩ : ∃ j, k = j + 1 := ⟨k - 1, by omega⟩
  simp -implicitDefEqProofs only [run, ext_36, itoaAll]
  rw [if_pos ⟨by omega, by omega⟩, itoaB_nat]
theorem r_impl_FormatIntA (k : Nat) (hk : 3 ≤ k) (n : Nat) (hn : n < 10 ^ 18) : run E noExt k 18 [.int .i64 (n : Nat)] [] = some (.str (digitsB n), []) := by
  have c0 := r_itoaA (k - 1) (by omega) n hn
  obtain ⟨k, rfl⟩ : ∃ j, k = j + 1 := ⟨k - 1, by omega⟩
  rw [run_succ rfl rfl, body_eq (nt := 5) (fn := Go.Proofs.Tryd.f18) (by kernel_rfl) rfl rfl rfl rfl rfl rfl rfl rfl]
  simp -implicitDefEqProofs only [Nat.add_sub_cancel] at c0
  simp -implicitDefEqProofs only [W3, ↓D3, ↓DA, ↓DP, ↓DC, Go.Proofs.Tryd.f18, c0, Int.reduceToNat, id_eq, Int.reduceBEq, Int.reduceLE, Int.reduceLT, SH, Nat.reduceAdd, Nat.reduceEqDiff, Nat.reduceLT, Nat.reduceLeDiff, Nat.reduceMul, Nat.reduceSub, reduceIte]
def kindB (q : Nat) : ByteArray := if q = 1 then ⟨#[112]⟩ else if q = 2 then ⟨#[100]⟩ else if q = 3 then ⟨#[103]⟩ else ⟨#[111]⟩
def nameB (n : Nat) : ByteArray := kindB (n / 10) ++ digitsB (n % 10)
theorem dig1_size {n : Nat} (h : n < 10) : (digitsB n).size = 1 := by
  have : (digitsB n).size = (digitsB n).data.toList.length := rfl
  rw [this, digitsB_data, decDigits_one h]; rfl
theorem kind_size (q : Nat) : (kindB q).size = 1 := by
  unfold kindB
  split
  · rfl
  · split
    · rfl
    · split <;> rfl
theorem name_size (n : Nat) : (nameB n).size = 2 := by
  unfold nameB
  rw [ByteArray.size_append, kind_size, dig1_size (Nat.mod_lt _ (by decide))]
theorem name_facts {n : Nat} (h1 : 10 ≤ n) (h2 : n ≤ 49) : isName ((n : Nat) : Int) = true ∧ (∀ t, evBin2 E.P .rem t (.int .i64 ((n : Nat) : Int)) (.int .i64 10) = some (.int .i64 ((n % 10 : Nat) : Int))) ∧ ∀ t, evBin2 E.P .quo t (.int .i64 ((n : Nat) : Int)) (.int .i64 10) = some (.int .i64 ((n / 10 : Nat) : Int)) := by
  refine ⟨?_, fun t => ?_, fun t => ?_⟩
  · unfold isName inR
    simp -implicitDefEqProofs only [Bool.and_eq_true, decide_eq_true_eq]; omega
  · simp -implicitDefEqProofs only [evBin2, evBin, evInt, Int.reduceEq, if_false]
    rw [Int.tmod_eq_emod_of_nonneg (by omega)]; rfl
  · rw [bin_quo (by decide), Int.tdiv_eq_ediv_of_nonneg (by omega), IntWalk.i64_in _ (by omega)]; rfl
theorem r_spec_FormatName (k : Nat) (hk : 281474976710656 + 5 ≤ k) (n : Nat) (h1 : 10 ≤ n) (h2 : n ≤ 49) : run E noExt k 14 [.int .i64 (n : Nat)] [] = some (.str (nameB n), []) := by
  have c1 := r_spec_IsName (k - 1) (by omega) ((n : Nat) : Int)
  have c2 := r_spec_FormatInt (k - 1) (by omega) (n % 10) (by omega)
  obtain ⟨hin, hre, hqu⟩ := name_facts h1 h2
  rw [hin] at c1
  have hd := dig1_size (Nat.mod_lt n (by decide : 0 < 10))
  obtain ⟨k, rfl⟩ : ∃ j, k = j + 1 := ⟨k - 1, by omega⟩
  rw [run_succ rfl rfl, body_eq (nt := 15) (fn := Go.Proofs.Tryd.f14) (by kernel_rfl) rfl rfl rfl rfl rfl rfl rfl rfl]
  simp -implicitDefEqProofs only [Nat.add_sub_cancel] at c1 c2
  unfold nameB
  have h5 : (((n / 10 : Nat) : Int) < ((5 : Nat) : Int)) = True := eq_true (by omega)
  have hq : n / 10 = 1 ∨ n / 10 = 2 ∨ n / 10 = 3 ∨ n / 10 = 4 := by omega
  generalize n / 10 = q at *
  generalize n % 10 = d at *
  have hsz : ∀ x : UInt8, (((ByteArray.mk #[x]).size + (digitsB d).size : Nat) > IntKind.max .i64) = False := fun x => by
    rw [hd]
    have e : IntKind.max .i64 = 9223372036854775807 := rfl
    have e2 : (ByteArray.mk #[x]).size = 1 := rfl
    rw [e, e2]; exact eq_false (by omega)
  rcases hq with rfl | rfl | rfl | rfl
  all_goals
    simp -implicitDefEqProofs only [W3, ↓D3, ↓DA, ↓DP, ↓DC, Go.Proofs.Tryd.f14, c1, c2, hre, hqu, hsz, h5, str_add, kindB, gateAt_flo, gateF_some, runPlan_flo, opF_callF, thenF, evRo, isScal, Nat.reduceEqDiff, if_true, if_false, plan_14_3, SH, Int.reduceToNat, id_eq, Int.reduceBEq, Int.reduceLE, Int.reduceLT, Nat.reduceAdd, Nat.reduceLT, Nat.reduceLeDiff, Nat.reduceMul, Nat.reduceSub, reduceIte]
theorem r_impl_FormatName (k : Nat) (hk : 281474976710656 + 8 ≤ k) (n : Nat) (h1 : 10 ≤ n) (h2 : n ≤ 49) : run E noExt k 17 [.int .i64 (n : Nat)] [] = some (.str (nameB n), []) := by
  have c1 := r_impl_IsName (k - 1) (by omega) ((n : Nat) : Int)
  have c2 := r_impl_FormatIntA (k - 1) (by omega) (n % 10) (by omega)
  have c3 := r_impl_KindOf (k - 1) (by omega) ((n : Nat) : Int)
  obtain ⟨hin, hre, hqu⟩ := name_facts h1 h2
  have hkq : kindOf ((n : Nat) : Int) = ((n / 10 : Nat) : Int) := by
    unfold kindOf
    rw [hin, if_pos rfl, Int.tdiv_eq_ediv_of_nonneg (by omega), IntWalk.i64_in _ (by omega)]; rfl
  rw [hin] at c1
  rw [hkq] at c3
  have hd := dig1_size (Nat.mod_lt n (by decide : 0 < 10))
  obtain ⟨k, rfl⟩ : ∃ j, k = j + 1 := ⟨k - 1, by omega⟩
  rw [run_succ rfl rfl, body_eq (nt := 14) (fn := Go.Proofs.Tryd.f17) (by kernel_rfl) rfl rfl rfl rfl rfl rfl rfl rfl]
  simp -implicitDefEqProofs only [Nat.add_sub_cancel] at c1 c2 c3
  unfold nameB
  have h5 : (((n / 10 : Nat) : Int) < ((5 : Nat) : Int)) = True := eq_true (by omega)
  have hq : n / 10 = 1 ∨ n / 10 = 2 ∨ n / 10 = 3 ∨ n / 10 = 4 := by omega
  generalize n / 10 = q at *
  generalize n % 10 = d at *
  have hsz : ∀ x : UInt8, (((ByteArray.mk #[x]).size + (digitsB d).size : Nat) > IntKind.max .i64) = False := fun x => by
    rw [hd]
    have e : IntKind.max .i64 = 9223372036854775807 := rfl
    have e2 : (ByteArray.mk #[x]).size = 1 := rfl
    rw [e, e2]; exact eq_false (by omega)
  rcases hq with rfl | rfl | rfl | rfl
  all_goals
    simp -implicitDefEqProofs only [W3, ↓D3, ↓DA, ↓DP, ↓DC, Go.Proofs.Tryd.f17, c1, c2, c3, hre, hqu, hsz, h5, str_add, kindB, op_index, opP_index, evIndex, Nat.reduceEqDiff, if_true, if_false, plan_17_3, SH, Int.reduceToNat, id_eq, Int.reduceBEq, Int.reduceLE, Int.reduceLT, Nat.reduceAdd, Nat.reduceLT, Nat.reduceLeDiff, Nat.reduceMul, Nat.reduceSub, reduceIte]
def spB : ByteArray := ⟨#[32]⟩
def reqT (q : Request) : ByteArray := nameB q.person.toNat ++ spB ++ nameB q.device.toNat ++ spB ++ nameB q.program.toNat ++ spB ++ digitsB q.action.toNat ++ spB ++ nameB q.object.toNat ++ spB ++ digitsB q.now.toNat
def fmtReq (q : Request) : ByteArray := if isRequest q = true then reqT q else ByteArray.empty
theorem fits {a b : ByteArray} (h : a.size + b.size ≤ 1000) : (((a.size + b.size : Nat) : Int) > IntKind.max .i64) = False := by
  have e : IntKind.max .i64 = 9223372036854775807 := rfl
  rw [e]
  exact eq_false (by omega)
theorem dig_small {n : Nat} (h : n < 100000) : (digitsB n).size ≤ 5 := by
  by_cases h0 : n = 0
  · subst h0; rw [dig1_size (by decide)]; omega
  · have := decS_size 5 n (by omega)
    unfold decS at this
    rw [if_neg h0] at this
    exact this
theorem name_in {x k : Int} (h : hasKind x k = true) : 10 ≤ x ∧ x ≤ 49 := by
  unfold hasKind isName inR at h
  simp -implicitDefEqProofs only [Bool.and_eq_true, decide_eq_true_eq] at h
  omega
theorem req_nat {q : Request} (h : isRequest q = true) : ∃ p d g a o n : Nat, q = ⟨(p : Nat), (d : Nat), (g : Nat), (a : Nat), (o : Nat), (n : Nat)⟩ ∧ (10 ≤ p ∧ p ≤ 49) ∧ (10 ≤ d ∧ d ≤ 49) ∧ (10 ≤ g ∧ g ≤ 49) ∧ a ≤ 5 ∧ (10 ≤ o ∧ o ≤ 49) ∧ n ≤ 10000 := by
  unfold isRequest at h
  simp -implicitDefEqProofs only [Bool.and_eq_true] at h
  obtain ⟨h1, h2, h3, h4, h5, h6⟩ := h
  have e1 := name_in h1
  have e2 := name_in h2
  have e3 := name_in h3
  have e4 := name_in h4
  unfold inR at h5
  unfold isT inR at h6
  simp -implicitDefEqProofs only [Bool.and_eq_true, decide_eq_true_eq] at h5 h6
  obtain ⟨p, d, g, a, o, n⟩ := q
  simp only at *
  refine ⟨p.toNat, d.toNat, g.toNat, a.toNat, o.toNat, n.toNat, ?_, by omega, by omega, by omega, by omega, by omega, by omega⟩
  simp -implicitDefEqProofs only [Request.mk.injEq]
  omega
theorem r_spec_FormatRequest {fl : Bool} (k : Nat) (hk : 281474976710656 + 20 ≤ k) (q : Request) : run E noExt k 5 [q.enc fl] [] = some (.str (fmtReq q), []) := by
  have c1 := r_spec_IsRequest (fl := fl) (k - 1) (by omega) q
  have c2 := fun n h1 h2 => r_spec_FormatName (k - 1) (by omega) n h1 h2
  have c3 := fun n h => r_spec_FormatInt (k - 1) (by omega) n h
  unfold fmtReq
  cases hq : isRequest q with
  | false =>
    rw [hq] at c1
    obtain ⟨k, rfl⟩ : ∃ j, k = j + 1 := ⟨k - 1, by omega⟩
    rw [run_succ rfl rfl, body_eq (nt := 34) (fn := Go.Proofs.Tryd.f5) (by kernel_rfl) rfl rfl rfl rfl rfl rfl rfl rfl]
    simp -implicitDefEqProofs only [Nat.add_sub_cancel, enc_Request] at c1
    simp -implicitDefEqProofs only [W3, ↓D3, ↓DA, ↓DP, ↓DC, Go.Proofs.Tryd.f5, enc_Request, c1, if_false, SH, Int.reduceToNat, id_eq, Int.reduceBEq, Int.reduceLE, Int.reduceLT, Nat.reduceAdd, Nat.reduceEqDiff, Nat.reduceLT, Nat.reduceLeDiff, Nat.reduceMul, Nat.reduceSub, reduceIte]
    try rfl
  | true =>
    obtain ⟨p, d, g, a, o, n, rfl, hp, hd, hg, ha, ho, hn⟩ := req_nat hq
    rw [hq] at c1
    have d1 := c2 p (by omega) (by omega)
    have d2 := c2 d (by omega) (by omega)
    have d3 := c2 g (by omega) (by omega)
    have d4 := c3 a (by omega)
    have d5 := c2 o (by omega) (by omega)
    have d6 := c3 n (by omega)
    clear c2 c3
    have sp := name_size p
    have sd := name_size d
    have sg := name_size g
    have so := name_size o
    have sa := dig_small (n := a) (by omega)
    have sn := dig_small (n := n) (by omega)
    obtain ⟨k, rfl⟩ : ∃ j, k = j + 1 := ⟨k - 1, by omega⟩
    rw [run_succ rfl rfl, body_eq (nt := 34) (fn := Go.Proofs.Tryd.f5) (by kernel_rfl) rfl rfl rfl rfl rfl rfl rfl rfl]
    simp -implicitDefEqProofs only [Nat.add_sub_cancel, enc_Request] at c1 d1 d2 d3 d4 d5 d6
    rw [if_pos rfl]
    simp -implicitDefEqProofs only [reqT, Int.toNat_natCast]
    generalize nameB p = P at *
    generalize nameB d = D at *
    generalize nameB g = G at *
    generalize nameB o = O at *
    generalize digitsB a = A at *
    generalize digitsB n = N at *
    have hS : spB.size = 1 := rfl
    generalize hSB : spB = S at *
    have hSB2 : (⟨#[32]⟩ : ByteArray) = S := hSB
    have f0 : ∀ t, evBin2 E.P .add t (.str (P)) (.str S) = some (.str (P ++ S)) := fun t => str_add (fits (by (try simp -implicitDefEqProofs only [ByteArray.size_append]); omega))
    have f1 : ∀ t, evBin2 E.P .add t (.str (P ++ S)) (.str D) = some (.str (P ++ S ++ D)) := fun t => str_add (fits (by (try simp -implicitDefEqProofs only [ByteArray.size_append]); omega))
    have f2 : ∀ t, evBin2 E.P .add t (.str (P ++ S ++ D)) (.str S) = some (.str (P ++ S ++ D ++ S)) := fun t => str_add (fits (by (try simp -implicitDefEqProofs only [ByteArray.size_append]); omega))
    have f3 : ∀ t, evBin2 E.P .add t (.str (P ++ S ++ D ++ S)) (.str G) = some (.str (P ++ S ++ D ++ S ++ G)) := fun t => str_add (fits (by (try simp -implicitDefEqProofs only [ByteArray.size_append]); omega))
    have f4 : ∀ t, evBin2 E.P .add t (.str (P ++ S ++ D ++ S ++ G)) (.str S) = some (.str (P ++ S ++ D ++ S ++ G ++ S)) := fun t => str_add (fits (by (try simp -implicitDefEqProofs only [ByteArray.size_append]); omega))
    have f5 : ∀ t, evBin2 E.P .add t (.str (P ++ S ++ D ++ S ++ G ++ S)) (.str A) = some (.str (P ++ S ++ D ++ S ++ G ++ S ++ A)) := fun t => str_add (fits (by (try simp -implicitDefEqProofs only [ByteArray.size_append]); omega))
    have f6 : ∀ t, evBin2 E.P .add t (.str (P ++ S ++ D ++ S ++ G ++ S ++ A)) (.str S) = some (.str (P ++ S ++ D ++ S ++ G ++ S ++ A ++ S)) := fun t => str_add (fits (by (try simp -implicitDefEqProofs only [ByteArray.size_append]); omega))
    have f7 : ∀ t, evBin2 E.P .add t (.str (P ++ S ++ D ++ S ++ G ++ S ++ A ++ S)) (.str O) = some (.str (P ++ S ++ D ++ S ++ G ++ S ++ A ++ S ++ O)) := fun t => str_add (fits (by (try simp -implicitDefEqProofs only [ByteArray.size_append]); omega))
    have f8 : ∀ t, evBin2 E.P .add t (.str (P ++ S ++ D ++ S ++ G ++ S ++ A ++ S ++ O)) (.str S) = some (.str (P ++ S ++ D ++ S ++ G ++ S ++ A ++ S ++ O ++ S)) := fun t => str_add (fits (by (try simp -implicitDefEqProofs only [ByteArray.size_append]); omega))
    have f9 : ∀ t, evBin2 E.P .add t (.str (P ++ S ++ D ++ S ++ G ++ S ++ A ++ S ++ O ++ S)) (.str N) = some (.str (P ++ S ++ D ++ S ++ G ++ S ++ A ++ S ++ O ++ S ++ N)) := fun t => str_add (fits (by (try simp -implicitDefEqProofs only [ByteArray.size_append]); omega))
    simp -implicitDefEqProofs only [W3, ↓D3, ↓DA, ↓DP, ↓DC, Go.Proofs.Tryd.f5, enc_Request, hSB2, c1, d1, d2, d3, d4, d5, d6, f0, f1, f2, f3, f4, f5, f6, f7, f8, f9, gateAt_flo, gateF_some, runPlan_flo, opF_callF, thenF, evRo, isScal, if_true, plan_5_3, SH, Int.reduceToNat, id_eq, Int.reduceBEq, Int.reduceLE, Int.reduceLT, Nat.reduceAdd, Nat.reduceEqDiff, Nat.reduceLT, Nat.reduceLeDiff, Nat.reduceMul, Nat.reduceSub, reduceIte]
    try trace_state
theorem r_impl_FormatRequest {fl : Bool} (k : Nat) (hk : 281474976710656 + 20 ≤ k) (q : Request) : run E noExt k 7 [q.enc fl] [] = some (.str (fmtReq q), []) := by
  have c1 := r_impl_IsRequest (fl := fl) (k - 1) (by omega) q
  have c2 := fun n h1 h2 => r_impl_FormatName (k - 1) (by omega) n h1 h2
  have c3 := fun n h => r_impl_FormatIntA (k - 1) (by omega) n h
  unfold fmtReq
  cases hq : isRequest q with
  | false =>
    rw [hq] at c1
    obtain ⟨k, rfl⟩ : ∃ j, k = j + 1 := ⟨k - 1, by omega⟩
    rw [run_succ rfl rfl, body_eq (nt := 34) (fn := Go.Proofs.Tryd.f7) (by kernel_rfl) rfl rfl rfl rfl rfl rfl rfl rfl]
    simp -implicitDefEqProofs only [Nat.add_sub_cancel, enc_Request] at c1
    simp -implicitDefEqProofs only [W3, ↓D3, ↓DA, ↓DP, ↓DC, Go.Proofs.Tryd.f7, enc_Request, c1, if_false, SH, Int.reduceToNat, id_eq, Int.reduceBEq, Int.reduceLE, Int.reduceLT, Nat.reduceAdd, Nat.reduceEqDiff, Nat.reduceLT, Nat.reduceLeDiff, Nat.reduceMul, Nat.reduceSub, reduceIte]
    try rfl
  | true =>
    obtain ⟨p, d, g, a, o, n, rfl, hp, hd, hg, ha, ho, hn⟩ := req_nat hq
    rw [hq] at c1
    have d1 := c2 p (by omega) (by omega)
    have d2 := c2 d (by omega) (by omega)
    have d3 := c2 g (by omega) (by omega)
    have d4 := c3 a (by omega)
    have d5 := c2 o (by omega) (by omega)
    have d6 := c3 n (by omega)
    clear c2 c3
    have sp := name_size p
    have sd := name_size d
    have sg := name_size g
    have so := name_size o
    have sa := dig_small (n := a) (by omega)
    have sn := dig_small (n := n) (by omega)
    obtain ⟨k, rfl⟩ : ∃ j, k = j + 1 := ⟨k - 1, by omega⟩
    rw [run_succ rfl rfl, body_eq (nt := 34) (fn := Go.Proofs.Tryd.f7) (by kernel_rfl) rfl rfl rfl rfl rfl rfl rfl rfl]
    simp -implicitDefEqProofs only [Nat.add_sub_cancel, enc_Request] at c1 d1 d2 d3 d4 d5 d6
    rw [if_pos rfl]
    simp -implicitDefEqProofs only [reqT, Int.toNat_natCast]
    generalize nameB p = P at *
    generalize nameB d = D at *
    generalize nameB g = G at *
    generalize nameB o = O at *
    generalize digitsB a = A at *
    generalize digitsB n = N at *
    have hS : spB.size = 1 := rfl
    generalize hSB : spB = S at *
    have hSB2 : (⟨#[32]⟩ : ByteArray) = S := hSB
    have f0 : ∀ t, evBin2 E.P .add t (.str (P)) (.str S) = some (.str (P ++ S)) := fun t => str_add (fits (by (try simp -implicitDefEqProofs only [ByteArray.size_append]); omega))
    have f1 : ∀ t, evBin2 E.P .add t (.str (P ++ S)) (.str D) = some (.str (P ++ S ++ D)) := fun t => str_add (fits (by (try simp -implicitDefEqProofs only [ByteArray.size_append]); omega))
    have f2 : ∀ t, evBin2 E.P .add t (.str (P ++ S ++ D)) (.str S) = some (.str (P ++ S ++ D ++ S)) := fun t => str_add (fits (by (try simp -implicitDefEqProofs only [ByteArray.size_append]); omega))
    have f3 : ∀ t, evBin2 E.P .add t (.str (P ++ S ++ D ++ S)) (.str G) = some (.str (P ++ S ++ D ++ S ++ G)) := fun t => str_add (fits (by (try simp -implicitDefEqProofs only [ByteArray.size_append]); omega))
    have f4 : ∀ t, evBin2 E.P .add t (.str (P ++ S ++ D ++ S ++ G)) (.str S) = some (.str (P ++ S ++ D ++ S ++ G ++ S)) := fun t => str_add (fits (by (try simp -implicitDefEqProofs only [ByteArray.size_append]); omega))
    have f5 : ∀ t, evBin2 E.P .add t (.str (P ++ S ++ D ++ S ++ G ++ S)) (.str A) = some (.str (P ++ S ++ D ++ S ++ G ++ S ++ A)) := fun t => str_add (fits (by (try simp -implicitDefEqProofs only [ByteArray.size_append]); omega))
    have f6 : ∀ t, evBin2 E.P .add t (.str (P ++ S ++ D ++ S ++ G ++ S ++ A)) (.str S) = some (.str (P ++ S ++ D ++ S ++ G ++ S ++ A ++ S)) := fun t => str_add (fits (by (try simp -implicitDefEqProofs only [ByteArray.size_append]); omega))
    have f7 : ∀ t, evBin2 E.P .add t (.str (P ++ S ++ D ++ S ++ G ++ S ++ A ++ S)) (.str O) = some (.str (P ++ S ++ D ++ S ++ G ++ S ++ A ++ S ++ O)) := fun t => str_add (fits (by (try simp -implicitDefEqProofs only [ByteArray.size_append]); omega))
    have f8 : ∀ t, evBin2 E.P .add t (.str (P ++ S ++ D ++ S ++ G ++ S ++ A ++ S ++ O)) (.str S) = some (.str (P ++ S ++ D ++ S ++ G ++ S ++ A ++ S ++ O ++ S)) := fun t => str_add (fits (by (try simp -implicitDefEqProofs only [ByteArray.size_append]); omega))
    have f9 : ∀ t, evBin2 E.P .add t (.str (P ++ S ++ D ++ S ++ G ++ S ++ A ++ S ++ O ++ S)) (.str N) = some (.str (P ++ S ++ D ++ S ++ G ++ S ++ A ++ S ++ O ++ S ++ N)) := fun t => str_add (fits (by (try simp -implicitDefEqProofs only [ByteArray.size_append]); omega))
    simp -implicitDefEqProofs only [W3, ↓D3, ↓DA, ↓DP, ↓DC, Go.Proofs.Tryd.f7, enc_Request, hSB2, c1, d1, d2, d3, d4, d5, d6, f0, f1, f2, f3, f4, f5, f6, f7, f8, f9, gateAt_flo, gateF_some, runPlan_flo, opF_callF, thenF, evRo, isScal, if_true, plan_7_3, SH, Int.reduceToNat, id_eq, Int.reduceBEq, Int.reduceLE, Int.reduceLT, Nat.reduceAdd, Nat.reduceEqDiff, Nat.reduceLT, Nat.reduceLeDiff, Nat.reduceMul, Nat.reduceSub, reduceIte]
    try trace_state
end Go.Proofs.YtagbfaeddlgckaaDoor.Flat
