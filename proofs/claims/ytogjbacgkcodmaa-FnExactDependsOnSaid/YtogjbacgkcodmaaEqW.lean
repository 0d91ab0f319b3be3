/-
Roles of a person.
-/
import Derived.Test.YtogjbacgkcodmaaEqI
import Derived.Test.YtogjbacgkcodmaaEqF
import Derived.Test.YtogjbacgkcodmaaEqU
set_option linter.unusedVariables false
set_option linter.unusedSimpArgs false
set_option maxRecDepth 10000
namespace Go.Proofs.Ytogjbacgkcodmaa.Flat
theorem r_sort (k : Nat) (hk : 1 ≤ k) (e : Nat) (zs : List Int) (h : zs.length < 4611686018427387904) : run E noExt k 89 [.own 0 false e 1 (zs.map (AV.int .i64))] [] = some (.tup [], [[.own 0 false e 1 ((ascending zs).map (AV.int .i64))]]) := by
  obtain ⟨k, rfl⟩ : ∃ j, k = j + 1 := ⟨k - 1, by omega⟩
  simp -implicitDefEqProofs only [run, ext_89, sortExt, intsOf_map, Option.bind_some, h, if_true]
theorem r_compact (k : Nat) (hk : 1 ≤ k) (e : Nat) (zs : List Int) : run E noExt k 90 [.own 0 false e 1 (zs.map (AV.int .i64))] [] = some (.own 0 false e 1 ((Lib.compact zs).map (AV.int .i64)), []) := by
  obtain ⟨k, rfl⟩ : ∃ j, k = j + 1 := ⟨k - 1, by omega⟩
  simp -implicitDefEqProofs only [run, ext_90, compactExt, intsOf_map, Option.map_some]
end Go.Proofs.Ytogjbacgkcodmaa.Flat
