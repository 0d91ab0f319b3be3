/-
Epochs and leases: looked up, compared, taken.
-/
import Derived.Test.YtaoemmefjakjnaaEqE
import Derived.Test.YtaoemmefjakjnaaEqG
set_option linter.unusedVariables false
set_option linter.unusedSimpArgs false
set_option maxRecDepth 10000
namespace Go.Proofs.Ytaoemmefjakjnaa.Flat
def newest (s : List Epoch) : Int := ((s.getLast?).map Epoch.number).getD 0
theorem newest_nil : newest [] = 0 := rfl
theorem newest_snoc (s : List Epoch) (e : Epoch) : newest (s ++ [e]) = e.number := by simp [newest]
theorem r_spec_NewestNumber {fl : Bool} (k : Nat) (hk : 281474976710656 + 1 ≤ k) (s : List Epoch) (hs : s.length ≤ 140737488355328) : run E noExt k 13 [.sl fl (s.map (Epoch.enc fl))] [] = some (.int .i64 (newest s), []) := by
  obtain ⟨k, rfl⟩ : ∃ j, k = j + 1 := ⟨k - 1, by omega⟩
  rw [run_succ rfl rfl, body_eq (nt := 13) (fn := Go.Proofs.Try.f13) (by kernel_rfl) rfl rfl rfl rfl rfl rfl rfl rfl]
  rcases List.eq_nil_or_concat s with rfl | ⟨p, e, rfl⟩
  · simp -implicitDefEqProofs only [QS, QN, Go.Proofs.Try.f13, newest_nil, ifEv_bool, SN, evCutRow, Int.reduceToNat, id_eq, Int.reduceBEq, Int.reduceLE, Int.reduceLT, SS, one_ne2, num_ne2, TIS, MDS, wanted, numbered, plainC, plainS, evEq, eqK, evBox, evAlloc, evStore, evLoad, evFieldAddr, behind, takeVal, AV.cells, AV.isCell, ofCells, ofCell, Value.cells, Nat.reduceAdd, Nat.reduceEqDiff, Nat.reduceLT, Nat.reduceLeDiff, Nat.reduceMul, Nat.reduceSub, reduceIte]
  · rw [List.concat_eq_append] at hs ⊢
    have hl : (p ++ [e]).length = p.length + 1 := by simp
    have h0 : ((((p ++ [e]).length : Nat) : Int) == 0) = false := by rw [hl]; simp; omega
    have hw : IntKind.i64.wrap (((p.length + 1 : Nat) : Int) - 1) = (p.length : Nat) := by rw [IntWalk.i64_in _ (by omega)]; omega
    have hx : (p ++ [e])[p.length]? = some e := by simp
    have h0' : (((p.length + 1 : Nat) : Int) == 0) = false := by rw [hl] at h0; exact h0
    simp -implicitDefEqProofs only [QS, QN, newest_snoc, Go.Proofs.Try.f13, hl, h0', hw, hx, enc_Epoch, ifEv_bool, SN, evCutRow, Int.reduceToNat, id_eq, Int.reduceBEq, Int.reduceLE, Int.reduceLT, SS, one_ne2, num_ne2, TIS, MDS, wanted, numbered, plainC, plainS, evEq, eqK, evBox, evAlloc, evStore, evLoad, evFieldAddr, behind, takeVal, AV.cells, AV.isCell, ofCells, ofCell, Value.cells, Nat.reduceAdd, Nat.reduceEqDiff, Nat.reduceLT, Nat.reduceLeDiff, Nat.reduceMul, Nat.reduceSub, reduceIte]
theorem r_impl_NewestNumber {fl : Bool} (k : Nat) (hk : 281474976710656 + 1 ≤ k) (s : List Epoch) (hs : s.length ≤ 140737488355328) : run E noExt k 9 [.sl fl (s.map (Epoch.enc fl))] [] = some (.int .i64 (newest s), []) := by
  obtain ⟨k, rfl⟩ : ∃ j, k = j + 1 := ⟨k - 1, by omega⟩
  rw [run_succ rfl rfl, body_eq (nt := 13) (fn := Go.Proofs.Try.f9) (by kernel_rfl) rfl rfl rfl rfl rfl rfl rfl rfl]
  rcases List.eq_nil_or_concat s with rfl | ⟨p, e, rfl⟩
  · simp -implicitDefEqProofs only [QS, QN, Go.Proofs.Try.f9, newest_nil, ifEv_bool, SN, evCutRow, Int.reduceToNat, id_eq, Int.reduceBEq, Int.reduceLE, Int.reduceLT, SS, one_ne2, num_ne2, TIS, MDS, wanted, numbered, plainC, plainS, evEq, eqK, evBox, evAlloc, evStore, evLoad, evFieldAddr, behind, takeVal, AV.cells, AV.isCell, ofCells, ofCell, Value.cells, Nat.reduceAdd, Nat.reduceEqDiff, Nat.reduceLT, Nat.reduceLeDiff, Nat.reduceMul, Nat.reduceSub, reduceIte]
  · rw [List.concat_eq_append] at hs ⊢
    have hl : (p ++ [e]).length = p.length + 1 := by simp
    have h0 : ((((p ++ [e]).length : Nat) : Int) == 0) = false := by rw [hl]; simp; omega
    have hw : IntKind.i64.wrap (((p.length + 1 : Nat) : Int) - 1) = (p.length : Nat) := by rw [IntWalk.i64_in _ (by omega)]; omega
    have hx : (p ++ [e])[p.length]? = some e := by simp
    have h0' : (((p.length + 1 : Nat) : Int) == 0) = false := by rw [hl] at h0; exact h0
    simp -implicitDefEqProofs only [QS, QN, newest_snoc, Go.Proofs.Try.f9, hl, h0', hw, hx, enc_Epoch, ifEv_bool, SN, evCutRow, Int.reduceToNat, id_eq, Int.reduceBEq, Int.reduceLE, Int.reduceLT, SS, one_ne2, num_ne2, TIS, MDS, wanted, numbered, plainC, plainS, evEq, eqK, evBox, evAlloc, evStore, evLoad, evFieldAddr, behind, takeVal, AV.cells, AV.isCell, ofCells, ofCell, Value.cells, Nat.reduceAdd, Nat.reduceEqDiff, Nat.reduceLT, Nat.reduceLeDiff, Nat.reduceMul, Nat.reduceSub, reduceIte]
end Go.Proofs.Ytaoemmefjakjnaa.Flat
