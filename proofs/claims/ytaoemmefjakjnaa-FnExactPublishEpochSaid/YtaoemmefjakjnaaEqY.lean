/-
Marks in rows of whole numbers.
-/
import Derived.Test.YtaoemmefjakjnaaEqI
set_option linter.unusedVariables false
set_option linter.unusedSimpArgs false
set_option maxRecDepth 10000
namespace Go.Proofs.Ytaoemmefjakjnaa.Flat
theorem evCall_mutOwn {Φ : Phi} {nid n id : Nat} {b : Bool} {e sz : Nat} {xs : List AV} {v : AV} {dst : Option Nat} {st : St} : evCall Φ [.mut, .ro] nid n [.own id b e sz xs, v] [] dst st = evGive Φ nid n [(.mut, .own id b e sz xs), (.ro, v)] dst st := rfl
theorem evCall_mutAgg {Φ : Phi} {nid n : Nat} {cs : List AV} {v : AV} {dst : Option Nat} {st : St} : evCall Φ [.mut, .ro] nid n [.agg cs, v] [] dst st = evGive Φ nid n [(.mut, .agg cs), (.ro, v)] dst st := rfl
def mkStep (g : Nat → AV) (i : Nat) (_ : Nat) (b : List AV) : Sum (List AV) (List AV) := .inr (b.set i (g i))
theorem mkLoop (g : Nat → AV) : ∀ (s : List Nat) (i : Nat) (b : List AV), b.length = i + s.length → loopL (mkStep g) id i s b = b.take i ++ (List.range s.length).map (fun j => g (i + j))
  | [], i, b, h => by simp -implicitDefEqProofs only [loopL, List.length_nil, List.range_zero, List.map_nil, List.append_nil, id]; rw [List.take_of_length_le (by simp at h; omega)]
  | c :: r, i, b, h => by
    simp -implicitDefEqProofs only [List.length_cons] at h
    simp -implicitDefEqProofs only [loopL, mkStep]
    rw [mkLoop g r (i + 1) _ (by rw [List.length_set]; omega), List.length_cons, List.range_succ_eq_map, List.map_cons, List.map_map, List.take_set]
    have e : (b.take (i + 1)).set i (g i) = b.take i ++ [g i] := by
      rw [List.set_eq_take_append_cons_drop, if_pos (by rw [List.length_take]; omega), List.take_take, Nat.min_eq_left (by omega), List.drop_of_length_le (by rw [List.length_take]; omega)]
    rw [e, List.append_assoc, List.singleton_append]
    congr 3
    funext j
    simp -implicitDefEqProofs only [Function.comp]
    congr 1
    omega
end Go.Proofs.Ytaoemmefjakjnaa.Flat
