/-
The program's functions, and how they are reckoned with: tables.
-/
import Derived.Test.YtigfcbcnfppmcaaGreatFlatM5
import Derived.Test.YtigfcbcnfppmcaaGreatFlatM4
import Derived.Test.YtigfcbcnfppmcaaGreatProg
import Derived.KernelRfl
set_option linter.unusedVariables false
set_option linter.unusedSimpArgs false
namespace Go.Proofs.YtigfcbcnfppmcaaGreat.Flat
def keepT : Nat → Nat → List Nat
  | 3, 17 => [10, 11, 12, 13, 14, 15, 16]
  | 4, 10 => [3, 4, 5, 6, 7, 8, 9, 10]
  | 9, 3 => [1, 5, 9, 10, 11]
  | 10, 3 => [7, 9, 10, 16, 17, 18]
  | 14, 5 => [0, 1, 4, 7, 8, 11, 12]
  | 21, 2 => [1, 3]
  | 23, 7 => [1, 2, 3, 6, 8, 9, 28, 29]
  | 24, 3 => [1, 2, 7, 12, 13, 14]
  | 25, 3 => [0, 1, 6, 7, 9, 14, 15, 16]
  | 26, 2 => [1, 6, 7, 8]
  | 28, 3 => [0, 3, 4]
  | 29, 5 => [0, 4, 5, 6, 7, 8]
  | 41, 3 => [2, 3, 14, 15, 16]
  | 42, 3 => [3, 7, 8, 9]
  | 48, 3 => [0, 2, 3, 4]
  | 49, 8 => [0, 2, 3]
  | 51, 3 => [2, 5, 8, 9, 10]
  | 52, 3 => [0, 1, 7, 9, 14, 15, 16]
  | 60, 3 => [1, 2, 3, 4, 5, 11, 16, 17, 18]
  | 61, 3 => [1, 5, 8, 9]
  | 63, 4 => [1, 28, 29, 30]
  | 65, 4 => [2, 3, 31, 32, 33]
  | 66, 3 => [0, 3, 4]
  | 67, 3 => [0, 3, 4]
  | 72, 6 => [0, 3, 6, 7, 8]
  | 79, 3 => [1, 2, 3, 4, 11, 14, 15, 16]
  | 80, 2 => [0, 1, 7, 8]
  | 81, 2 => [0, 1, 7, 8]
  | 90, 2 => [0, 1, 7, 8]
  | 97, 2 => [1, 2, 5]
  | 101, 2 => [0, 3]
  | 106, 3 => [1, 2, 3, 4]
  | 107, 3 => [0, 2, 3, 4, 11, 15, 16, 17]
  | 108, 2 => [0, 1, 7, 8]
  | 114, 3 => [1, 2, 5]
  | 115, 4 => [1, 3]
  | 118, 2 => [0, 3, 7, 8]
  | 119, 4 => [1, 2, 15, 16, 17]
  | 120, 5 => [1, 5, 15, 16]
  | 126, 7 => [0, 4, 5, 6, 7, 21, 22, 23]
  | 126, 3 => [0, 4, 5, 6]
  | _, _ => []
def planT : Nat → Nat → List (Qt × Nat)
  | 3, 19 => [(.no, 0), (.no, 1), (.no, 2), (.no, 3), (.no, 4), (.no, 7), (.no, 8), (.no, 9), (.no, 10), (.quiet, 5), (.quiet, 6), (.no, 11), (.no, 12)]
  | 3, 21 => [(.no, 0), (.no, 1), (.no, 2), (.no, 3), (.no, 4), (.no, 5), (.no, 6), (.no, 7), (.no, 8), (.no, 9), (.no, 10), (.no, 11), (.no, 12), (.no, 13), (.no, 14), (.no, 15), (.no, 16), (.no, 17), (.no, 18), (.no, 19), (.no, 20), (.no, 21), (.no, 22), (.no, 23), (.no, 24), (.no, 25), (.no, 26), (.no, 27), (.no, 28), (.no, 29), (.no, 32), (.no, 33), (.no, 34), (.no, 35), (.quiet, 30), (.quiet, 31), (.no, 36), (.no, 37), (.no, 38), (.no, 39), (.no, 40)]
  | 4, 12 => [(.no, 0), (.no, 1), (.no, 2), (.no, 3), (.no, 4), (.no, 5), (.no, 6), (.no, 7), (.no, 8), (.no, 9), (.no, 10), (.no, 11), (.no, 12), (.no, 13), (.no, 14), (.no, 15), (.no, 16), (.no, 17), (.no, 18), (.no, 19), (.no, 20), (.no, 21)]
  | 5, 7 => [(.no, 0), (.no, 1), (.no, 2), (.no, 3), (.no, 5), (.no, 6), (.no, 7), (.no, 8), (.quiet, 4), (.no, 9), (.no, 10), (.no, 11), (.no, 12), (.no, 13), (.no, 14), (.no, 15), (.no, 16), (.no, 17), (.no, 18), (.no, 19), (.no, 20), (.no, 21), (.no, 22), (.no, 23), (.no, 24), (.no, 26), (.no, 27), (.no, 28), (.no, 29), (.quiet, 25), (.no, 30), (.no, 31), (.no, 32)]
  | 7, 6 => [(.no, 0), (.no, 1), (.no, 2), (.no, 3), (.quiet, 4), (.quiet, 5), (.soft [9] [9, 28], 6), (.no, 7)]
  | 13, 3 => [(.no, 0), (.no, 1), (.no, 2), (.no, 3), (.no, 4), (.soft [9, 10] [7, 8, 9, 10, 11, 21, 22, 23, 24, 25], 5), (.soft [9, 10] [7, 8, 9, 10, 21, 22, 23, 24], 6), (.quiet, 7), (.quiet, 8), (.soft [10] [10, 24], 9), (.no, 10), (.no, 11)]
  | 14, 5 => [(.no, 0), (.no, 1), (.no, 2), (.no, 3), (.no, 4), (.no, 5), (.no, 6), (.no, 7), (.no, 8), (.no, 9), (.no, 10), (.no, 11), (.no, 12), (.no, 13), (.no, 16), (.quiet, 14), (.quiet, 15), (.no, 17), (.no, 18)]
  | 17, 8 => [(.no, 0), (.no, 1), (.no, 2), (.no, 3), (.quiet, 4), (.quiet, 5), (.soft [9] [9, 32], 6), (.no, 7)]
  | 18, 3 => [(.no, 0), (.no, 1), (.no, 2), (.no, 3), (.no, 4), (.quiet, 5), (.no, 6), (.no, 7)]
  | 23, 9 => [(.no, 0), (.no, 1), (.no, 2), (.no, 3), (.no, 4), (.no, 5), (.no, 6), (.no, 7), (.quiet, 8), (.quiet, 9), (.soft [] [9, 32], 10), (.no, 11), (.no, 12)]
  | 26, 4 => [(.no, 0), (.no, 1), (.no, 2), (.no, 3), (.no, 4), (.no, 5), (.no, 6), (.no, 7), (.no, 8)]
  | 29, 17 => [(.no, 0), (.no, 1), (.no, 2), (.soft [47] [7, 47, 48], 3), (.no, 4), (.no, 5), (.no, 6), (.no, 7)]
  | 29, 18 => [(.no, 0), (.no, 1), (.no, 2), (.soft [54] [7, 54, 55], 3), (.no, 4), (.no, 5), (.no, 6)]
  | 29, 20 => [(.no, 0), (.no, 1), (.no, 2), (.quiet, 3), (.quiet, 4), (.no, 5)]
  | 30, 9 => [(.no, 0), (.no, 1), (.no, 2), (.no, 3), (.soft [5] [5, 31], 4), (.no, 5), (.no, 6)]
  | 30, 11 => [(.no, 0), (.no, 1), (.no, 2), (.no, 3), (.soft [6] [6, 41], 4), (.no, 5), (.no, 6)]
  | 32, 10 => [(.no, 0), (.no, 1), (.no, 2), (.soft [27] [3, 27, 28], 3), (.soft [27] [3, 27, 28], 4), (.no, 5), (.no, 6), (.no, 7)]
  | 35, 9 => [(.no, 0), (.no, 1), (.no, 2), (.no, 3), (.no, 4), (.no, 5), (.no, 6), (.no, 8), (.no, 9), (.quiet, 7), (.no, 10), (.no, 11)]
  | 35, 11 => [(.no, 0), (.no, 1), (.no, 2), (.no, 3), (.no, 4), (.no, 5), (.no, 6), (.no, 8), (.no, 9), (.quiet, 7), (.no, 10), (.no, 11)]
  | 41, 5 => [(.no, 0), (.no, 1), (.no, 2), (.quiet, 3), (.soft [20] [3, 20, 21], 4), (.no, 5), (.no, 6), (.no, 7)]
  | 48, 5 => [(.no, 0), (.no, 1), (.no, 2), (.soft [15] [3, 15, 16], 3), (.soft [15] [3, 15, 16], 4), (.no, 5), (.no, 6), (.no, 7)]
  | 49, 6 => [(.no, 0), (.no, 1), (.no, 2), (.no, 5), (.quiet, 6), (.no, 8), (.no, 10), (.soft [16] [0, 3, 16, 17, 21, 22, 24, 26], 3), (.no, 4), (.soft [16] [0, 3, 16, 17, 19, 20, 24, 26], 7), (.soft [16] [0, 3, 16, 17, 19, 20, 26], 9), (.soft [16] [3, 16, 17, 19, 20], 11), (.no, 12), (.soft [16] [3, 16, 17], 13), (.no, 14), (.no, 15), (.no, 16)]
  | 49, 9 => [(.no, 0), (.no, 1), (.no, 2), (.soft [38] [3, 38, 39], 3), (.soft [38] [3, 38, 39], 4), (.no, 5), (.no, 6), (.no, 7)]
  | 65, 6 => [(.no, 0), (.no, 1), (.no, 2), (.no, 3), (.no, 4), (.no, 5), (.no, 6), (.no, 7), (.no, 8), (.no, 9), (.no, 10), (.no, 11), (.no, 12), (.no, 13), (.no, 14), (.no, 15), (.no, 16), (.no, 17), (.no, 18), (.no, 19)]
  | 70, 2 => [(.no, 0), (.no, 1), (.no, 2), (.soft [12] [3, 12, 13], 3), (.no, 4), (.no, 5), (.no, 6)]
  | 72, 8 => [(.no, 0), (.no, 1), (.no, 2), (.no, 3), (.no, 4), (.no, 5), (.no, 6), (.no, 7), (.no, 8), (.no, 9)]
  | 75, 1 => [(.no, 0), (.no, 2), (.quiet, 1), (.no, 3), (.no, 4), (.no, 5), (.no, 6)]
  | 76, 1 => [(.no, 0), (.no, 2), (.quiet, 1), (.no, 3), (.no, 4), (.no, 5), (.no, 6)]
  | 83, 12 => [(.no, 0), (.no, 1), (.no, 2), (.no, 3), (.no, 4), (.quiet, 5), (.no, 6), (.no, 7), (.no, 8), (.no, 9), (.no, 10), (.no, 11), (.no, 12), (.no, 13), (.no, 14), (.no, 15), (.no, 16), (.no, 17), (.no, 18), (.no, 19)]
  | 94, 10 => [(.no, 0), (.no, 1), (.no, 2), (.no, 3), (.no, 4), (.no, 5), (.no, 6)]
  | 94, 13 => [(.no, 0), (.no, 1), (.no, 2), (.no, 3), (.no, 4), (.no, 5), (.soft [59] [0, 56, 57, 58, 59, 60], 6), (.soft [] [0, 56], 7), (.no, 8), (.no, 9), (.no, 10)]
  | 100, 2 => [(.no, 0), (.no, 1), (.no, 2), (.no, 3), (.no, 4), (.no, 5), (.no, 6), (.no, 7), (.no, 8), (.no, 9), (.no, 10), (.no, 11), (.no, 12)]
  | 100, 3 => [(.no, 0), (.no, 1), (.no, 2), (.no, 3), (.no, 4), (.no, 5), (.no, 6), (.no, 7), (.no, 8), (.no, 9)]
  | 100, 4 => [(.no, 0), (.no, 1), (.no, 2), (.no, 3), (.no, 4), (.no, 5), (.no, 6), (.no, 7), (.no, 8), (.no, 9), (.no, 10), (.no, 11), (.no, 12), (.no, 13), (.no, 14)]
  | 101, 4 => [(.no, 0), (.no, 1), (.no, 2), (.no, 3), (.no, 4), (.no, 5), (.no, 6), (.no, 7), (.no, 8), (.no, 9), (.no, 10), (.no, 11), (.no, 12), (.no, 13), (.no, 14), (.no, 15), (.no, 16), (.no, 17), (.no, 18), (.no, 19), (.no, 20), (.no, 21), (.no, 22)]
  | 106, 5 => [(.no, 0), (.no, 1), (.no, 2), (.no, 3), (.no, 4), (.no, 5), (.no, 6), (.quiet, 7), (.soft [19] [3, 19, 20], 8), (.no, 9), (.no, 10), (.no, 11)]
  | 118, 4 => [(.no, 0), (.no, 1), (.no, 2), (.no, 3), (.no, 4), (.no, 5)]
  | 124, 13 => [(.no, 0), (.no, 1), (.no, 2), (.no, 3), (.no, 4), (.no, 5), (.no, 6), (.no, 7), (.no, 8), (.no, 9), (.quiet, 10), (.no, 11), (.no, 12), (.no, 13)]
  | _, _ => []
def okT : List Nat := [3, 4, 5, 6, 7, 8, 9, 10, 11, 12, 13, 14, 15, 16, 17, 18, 19, 20, 21, 22, 23, 24, 25, 26, 27, 28, 29, 30, 31, 32, 33, 34, 35, 36, 37, 38, 39, 40, 41, 42, 43, 44, 45, 46, 47, 48, 49, 50, 51, 52, 53, 54, 55, 56, 57, 58, 59, 60, 61, 62, 63, 64, 65, 66, 67, 68, 69, 70, 71, 72, 73, 74, 75, 76, 77, 78, 79, 80, 81, 82, 83, 84, 85, 86, 87, 88, 89, 90, 91, 92, 93, 94, 95, 96, 97, 98, 99, 100, 101, 102, 103, 104, 105, 106, 107, 108, 109, 110, 111, 112, 113, 114, 115, 116, 117, 118, 119, 120, 123, 124, 125, 126, 129]
def treeT : List Nat := [41, 106]
def mdT : Nat → List Mode
  | 28 => [.give]
  | 29 => [.io]
  | 30 => [.io, .ro]
  | 31 => [.io, .ro]
  | 32 => [.io]
  | 44 => [.io, .ro]
  | 48 => [.io]
  | 49 => [.io]
  | 50 => [.io]
  | 63 => [.ro, .give]
  | 66 => [.io]
  | 67 => [.io]
  | 68 => [.io]
  | 69 => [.io, .ro]
  | 70 => [.io]
  | 73 => [.io]
  | 87 => [.io]
  | 88 => [.io]
  | 89 => [.io]
  | 94 => [.io, .ro, .ro, .ro]
  | 99 => [.io, .ro]
  | 100 => [.io]
  | 121 => [.«mut»]
  | 122 => [.give]
  | _ => []
noncomputable def E : Env := { P := Go.Proofs.Tryz.prog, md := mdT, keep := keepT, plan := planT, ok := fun f => okT.contains f, tree := fun f => treeT.contains f }
theorem mixed : E.P.follows .mixedOrders = true := by kernel_rfl
/-- One function's check. -/
def good1 (P : Program) (plan : Nat → Nat → List (Qt × Nat)) (md : Nat → List Mode) (f : Nat) : Bool :=
  match P.funcs[f]? with
  | some fn => (match fn.body with | some c => codeOK (plan f) c && codePin (mutSlots 0 (md f)) c | none => true) && !(fn.name == "runtime.NumGoroutine")
  | none => true
theorem good1_ok {E : Env} {l : List Nat} (ho : ∀ f, E.ok f = true → f ∈ l) (h : l.all (good1 E.P E.plan E.md) = true) : Sound E := by
  intro f hf fn c hfn hc
  have h1 := List.all_eq_true.1 h f (ho f hf)
  simp -implicitDefEqProofs only [good1, hfn, hc, Bool.and_eq_true, Bool.not_eq_true', beq_eq_false_iff_ne, ne_eq] at h1
  exact ⟨h1.1.1, h1.2, h1.1.2⟩
theorem sound : Sound E := good1_ok (l := okT) (fun f hf => by simpa [E] using hf) (by kernel_rfl)
/-- Functions of the library that are not entered. -/
def extT : Nat → Option (List AV → List (List AV) → Option (AV × List (List AV)))
  | 121 => some sortExt
  | 122 => some compactExt
  | _ => none
abbrev noExt : Nat → Option (List AV → List (List AV) → Option (AV × List (List AV))) := extT
theorem ext_121 : noExt 121 = some sortExt := rfl
theorem ext_122 : noExt 122 = some compactExt := rfl
abbrev nSort : Nat := 121
abbrev nCompact : Nat := 122
abbrev tBool : Nat := 4
theorem tagBool : tagOf E.P 4 = .bool := by kernel_rfl
theorem one_ne : (1 = 0) = False := by simp
theorem ti3 : tiOf E.P 3 = some { tag := Tag.int IntKind.i64, agg := false, size := 1, bytes := 8, zero := some (Value.int IntKind.i64 0), elem := 0, fields := [], eqs := none } := by kernel_rfl
theorem ti4 : tiOf E.P 4 = some { tag := Tag.bool, agg := false, size := 1, bytes := 1, zero := some (Value.bool false), elem := 0, fields := [], eqs := none } := by kernel_rfl
theorem ti5 : tiOf E.P 5 = some { tag := Tag.int IntKind.u8, agg := false, size := 1, bytes := 1, zero := some (Value.int IntKind.u8 0), elem := 0, fields := [], eqs := none } := by kernel_rfl
theorem ti22 : tiOf E.P 22 = some { tag := Tag.slice, agg := false, size := 1, bytes := 24, zero := some (Value.slice none 0 0), elem := 5, fields := [], eqs := none } := by kernel_rfl
theorem sl22 : isSliceT E.P 22 = true := by kernel_rfl
theorem ti24 : tiOf E.P 24 = some { tag := Tag.slice, agg := false, size := 1, bytes := 24, zero := some (Value.slice none 0 0), elem := 125, fields := [], eqs := none } := by kernel_rfl
theorem sl24 : isSliceT E.P 24 = true := by kernel_rfl
theorem ti25 : tiOf E.P 25 = some { tag := Tag.slice, agg := false, size := 1, bytes := 24, zero := some (Value.slice none 0 0), elem := 74, fields := [], eqs := none } := by kernel_rfl
theorem sl25 : isSliceT E.P 25 = true := by kernel_rfl
theorem ti26 : tiOf E.P 26 = some { tag := Tag.slice, agg := false, size := 1, bytes := 24, zero := some (Value.slice none 0 0), elem := 28, fields := [], eqs := none } := by kernel_rfl
theorem sl26 : isSliceT E.P 26 = true := by kernel_rfl
theorem ti28 : tiOf E.P 28 = some { tag := Tag.struct, agg := true, size := 4, bytes := 48, zero := some (Value.agg #[Value.int IntKind.i64 0, Value.int IntKind.i64 0, Value.int IntKind.i64 0, Value.slice none 0 0]), elem := 0, fields := [(0, 1, false), (1, 1, false), (2, 1, false), (3, 1, false)], eqs := none } := by kernel_rfl
theorem is28 : isStructT E.P 28 = true := by kernel_rfl
theorem ti30 : tiOf E.P 30 = some { tag := Tag.struct, agg := true, size := 6, bytes := 48, zero := some (Value.agg #[Value.int IntKind.i64 0, Value.int IntKind.i64 0, Value.int IntKind.i64 0, Value.int IntKind.i64 0, Value.int IntKind.i64 0, Value.int IntKind.i64 0]), elem := 0, fields := [(0, 1, false), (1, 1, false), (2, 1, false), (3, 1, false), (4, 1, false), (5, 1, false)], eqs := some [0, 0, 0, 0, 0, 0] } := by kernel_rfl
theorem is30 : isStructT E.P 30 = true := by kernel_rfl
theorem ti35 : tiOf E.P 35 = some { tag := Tag.slice, agg := false, size := 1, bytes := 24, zero := some (Value.slice none 0 0), elem := 3, fields := [], eqs := none } := by kernel_rfl
theorem sl35 : isSliceT E.P 35 = true := by kernel_rfl
theorem ti44 : tiOf E.P 44 = some { tag := Tag.slice, agg := false, size := 1, bytes := 24, zero := some (Value.slice none 0 0), elem := 53, fields := [], eqs := none } := by kernel_rfl
theorem sl44 : isSliceT E.P 44 = true := by kernel_rfl
theorem ti46 : tiOf E.P 46 = some { tag := Tag.struct, agg := true, size := 2, bytes := 32, zero := some (Value.agg #[Value.int IntKind.i64 0, Value.slice none 0 0]), elem := 0, fields := [(0, 1, false), (1, 1, false)], eqs := none } := by kernel_rfl
theorem is46 : isStructT E.P 46 = true := by kernel_rfl
theorem ti53 : tiOf E.P 53 = some { tag := Tag.struct, agg := true, size := 7, bytes := 72, zero := some (Value.agg #[Value.int IntKind.i64 0, Value.int IntKind.i64 0, Value.int IntKind.i64 0, Value.int IntKind.i64 0, Value.int IntKind.i64 0, Value.int IntKind.i64 0, Value.slice none 0 0]), elem := 0, fields := [(0, 1, false), (1, 1, false), (2, 1, false), (3, 4, true)], eqs := none } := by kernel_rfl
theorem is53 : isStructT E.P 53 = true := by kernel_rfl
theorem ti54 : tiOf E.P 54 = some { tag := Tag.slice, agg := false, size := 1, bytes := 24, zero := some (Value.slice none 0 0), elem := 98, fields := [], eqs := none } := by kernel_rfl
theorem sl54 : isSliceT E.P 54 = true := by kernel_rfl
theorem ti56 : tiOf E.P 56 = some { tag := Tag.struct, agg := true, size := 3, bytes := 40, zero := some (Value.agg #[Value.int IntKind.i64 0, Value.slice none 0 0, Value.int IntKind.i64 0]), elem := 0, fields := [(0, 1, false), (1, 1, false), (2, 1, false)], eqs := none } := by kernel_rfl
theorem is56 : isStructT E.P 56 = true := by kernel_rfl
theorem ti58 : tiOf E.P 58 = some { tag := Tag.struct, agg := true, size := 5, bytes := 72, zero := some (Value.agg #[Value.slice none 0 0, Value.int IntKind.i64 0, Value.slice none 0 0, Value.int IntKind.i64 0, Value.int IntKind.i64 0]), elem := 0, fields := [(0, 1, false), (1, 3, true), (4, 1, false)], eqs := none } := by kernel_rfl
theorem is58 : isStructT E.P 58 = true := by kernel_rfl
theorem ti74 : tiOf E.P 74 = some { tag := Tag.struct, agg := true, size := 6, bytes := 48, zero := some (Value.agg #[Value.int IntKind.i64 0, Value.int IntKind.i64 0, Value.int IntKind.i64 0, Value.int IntKind.i64 0, Value.int IntKind.i64 0, Value.int IntKind.i64 0]), elem := 0, fields := [(0, 1, false), (1, 1, false), (2, 1, false), (3, 1, false), (4, 1, false), (5, 1, false)], eqs := some [0, 0, 0, 0, 0, 0] } := by kernel_rfl
theorem is74 : isStructT E.P 74 = true := by kernel_rfl
theorem ti90 : tiOf E.P 90 = some { tag := Tag.slice, agg := false, size := 1, bytes := 24, zero := some (Value.slice none 0 0), elem := 4, fields := [], eqs := none } := by kernel_rfl
theorem sl90 : isSliceT E.P 90 = true := by kernel_rfl
theorem ti98 : tiOf E.P 98 = some { tag := Tag.struct, agg := true, size := 3, bytes := 24, zero := some (Value.agg #[Value.int IntKind.i64 0, Value.int IntKind.i64 0, Value.int IntKind.i64 0]), elem := 0, fields := [(0, 1, false), (1, 1, false), (2, 1, false)], eqs := some [0, 0, 0] } := by kernel_rfl
theorem is98 : isStructT E.P 98 = true := by kernel_rfl
theorem ti101 : tiOf E.P 101 = some { tag := Tag.struct, agg := true, size := 3, bytes := 40, zero := some (Value.agg #[Value.slice none 0 0, Value.int IntKind.i64 0, Value.int IntKind.i64 0]), elem := 0, fields := [(0, 1, false), (1, 1, false), (2, 1, false)], eqs := none } := by kernel_rfl
theorem is101 : isStructT E.P 101 = true := by kernel_rfl
theorem ti125 : tiOf E.P 125 = some { tag := Tag.struct, agg := true, size := 2, bytes := 16, zero := some (Value.agg #[Value.int IntKind.i64 0, Value.int IntKind.i64 0]), elem := 0, fields := [(0, 1, false), (1, 1, false)], eqs := some [0, 0] } := by kernel_rfl
theorem is125 : isStructT E.P 125 = true := by kernel_rfl
theorem ti140 : tiOf E.P 140 = some { tag := Tag.array 6, agg := true, size := 6, bytes := 6, zero := some (Value.agg #[Value.bool false, Value.bool false, Value.bool false, Value.bool false, Value.bool false, Value.bool false]), elem := 4, fields := [], eqs := none } := by kernel_rfl
theorem na140 : isSliceT E.P 140 = false := by kernel_rfl
theorem ar140 : isArrayT E.P 140 = some 6 := by kernel_rfl
theorem ns140 : isStructT E.P 140 = false := by kernel_rfl
theorem plan_3_19 : E.plan 3 19 = [(.no, 0), (.no, 1), (.no, 2), (.no, 3), (.no, 4), (.no, 7), (.no, 8), (.no, 9), (.no, 10), (.quiet, 5), (.quiet, 6), (.no, 11), (.no, 12)] := rfl
theorem plan_3_21 : E.plan 3 21 = [(.no, 0), (.no, 1), (.no, 2), (.no, 3), (.no, 4), (.no, 5), (.no, 6), (.no, 7), (.no, 8), (.no, 9), (.no, 10), (.no, 11), (.no, 12), (.no, 13), (.no, 14), (.no, 15), (.no, 16), (.no, 17), (.no, 18), (.no, 19), (.no, 20), (.no, 21), (.no, 22), (.no, 23), (.no, 24), (.no, 25), (.no, 26), (.no, 27), (.no, 28), (.no, 29), (.no, 32), (.no, 33), (.no, 34), (.no, 35), (.quiet, 30), (.quiet, 31), (.no, 36), (.no, 37), (.no, 38), (.no, 39), (.no, 40)] := rfl
theorem plan_4_12 : E.plan 4 12 = [(.no, 0), (.no, 1), (.no, 2), (.no, 3), (.no, 4), (.no, 5), (.no, 6), (.no, 7), (.no, 8), (.no, 9), (.no, 10), (.no, 11), (.no, 12), (.no, 13), (.no, 14), (.no, 15), (.no, 16), (.no, 17), (.no, 18), (.no, 19), (.no, 20), (.no, 21)] := rfl
theorem plan_5_7 : E.plan 5 7 = [(.no, 0), (.no, 1), (.no, 2), (.no, 3), (.no, 5), (.no, 6), (.no, 7), (.no, 8), (.quiet, 4), (.no, 9), (.no, 10), (.no, 11), (.no, 12), (.no, 13), (.no, 14), (.no, 15), (.no, 16), (.no, 17), (.no, 18), (.no, 19), (.no, 20), (.no, 21), (.no, 22), (.no, 23), (.no, 24), (.no, 26), (.no, 27), (.no, 28), (.no, 29), (.quiet, 25), (.no, 30), (.no, 31), (.no, 32)] := rfl
theorem plan_7_6 : E.plan 7 6 = [(.no, 0), (.no, 1), (.no, 2), (.no, 3), (.quiet, 4), (.quiet, 5), (.soft [9] [9, 28], 6), (.no, 7)] := rfl
theorem plan_13_3 : E.plan 13 3 = [(.no, 0), (.no, 1), (.no, 2), (.no, 3), (.no, 4), (.soft [9, 10] [7, 8, 9, 10, 11, 21, 22, 23, 24, 25], 5), (.soft [9, 10] [7, 8, 9, 10, 21, 22, 23, 24], 6), (.quiet, 7), (.quiet, 8), (.soft [10] [10, 24], 9), (.no, 10), (.no, 11)] := rfl
theorem plan_14_5 : E.plan 14 5 = [(.no, 0), (.no, 1), (.no, 2), (.no, 3), (.no, 4), (.no, 5), (.no, 6), (.no, 7), (.no, 8), (.no, 9), (.no, 10), (.no, 11), (.no, 12), (.no, 13), (.no, 16), (.quiet, 14), (.quiet, 15), (.no, 17), (.no, 18)] := rfl
theorem plan_17_8 : E.plan 17 8 = [(.no, 0), (.no, 1), (.no, 2), (.no, 3), (.quiet, 4), (.quiet, 5), (.soft [9] [9, 32], 6), (.no, 7)] := rfl
theorem plan_18_3 : E.plan 18 3 = [(.no, 0), (.no, 1), (.no, 2), (.no, 3), (.no, 4), (.quiet, 5), (.no, 6), (.no, 7)] := rfl
theorem plan_23_9 : E.plan 23 9 = [(.no, 0), (.no, 1), (.no, 2), (.no, 3), (.no, 4), (.no, 5), (.no, 6), (.no, 7), (.quiet, 8), (.quiet, 9), (.soft [] [9, 32], 10), (.no, 11), (.no, 12)] := rfl
theorem plan_26_4 : E.plan 26 4 = [(.no, 0), (.no, 1), (.no, 2), (.no, 3), (.no, 4), (.no, 5), (.no, 6), (.no, 7), (.no, 8)] := rfl
theorem plan_29_17 : E.plan 29 17 = [(.no, 0), (.no, 1), (.no, 2), (.soft [47] [7, 47, 48], 3), (.no, 4), (.no, 5), (.no, 6), (.no, 7)] := rfl
theorem plan_29_18 : E.plan 29 18 = [(.no, 0), (.no, 1), (.no, 2), (.soft [54] [7, 54, 55], 3), (.no, 4), (.no, 5), (.no, 6)] := rfl
theorem plan_29_20 : E.plan 29 20 = [(.no, 0), (.no, 1), (.no, 2), (.quiet, 3), (.quiet, 4), (.no, 5)] := rfl
theorem plan_30_9 : E.plan 30 9 = [(.no, 0), (.no, 1), (.no, 2), (.no, 3), (.soft [5] [5, 31], 4), (.no, 5), (.no, 6)] := rfl
theorem plan_30_11 : E.plan 30 11 = [(.no, 0), (.no, 1), (.no, 2), (.no, 3), (.soft [6] [6, 41], 4), (.no, 5), (.no, 6)] := rfl
theorem plan_32_10 : E.plan 32 10 = [(.no, 0), (.no, 1), (.no, 2), (.soft [27] [3, 27, 28], 3), (.soft [27] [3, 27, 28], 4), (.no, 5), (.no, 6), (.no, 7)] := rfl
theorem plan_35_9 : E.plan 35 9 = [(.no, 0), (.no, 1), (.no, 2), (.no, 3), (.no, 4), (.no, 5), (.no, 6), (.no, 8), (.no, 9), (.quiet, 7), (.no, 10), (.no, 11)] := rfl
theorem plan_35_11 : E.plan 35 11 = [(.no, 0), (.no, 1), (.no, 2), (.no, 3), (.no, 4), (.no, 5), (.no, 6), (.no, 8), (.no, 9), (.quiet, 7), (.no, 10), (.no, 11)] := rfl
theorem plan_41_5 : E.plan 41 5 = [(.no, 0), (.no, 1), (.no, 2), (.quiet, 3), (.soft [20] [3, 20, 21], 4), (.no, 5), (.no, 6), (.no, 7)] := rfl
theorem plan_48_5 : E.plan 48 5 = [(.no, 0), (.no, 1), (.no, 2), (.soft [15] [3, 15, 16], 3), (.soft [15] [3, 15, 16], 4), (.no, 5), (.no, 6), (.no, 7)] := rfl
theorem plan_49_6 : E.plan 49 6 = [(.no, 0), (.no, 1), (.no, 2), (.no, 5), (.quiet, 6), (.no, 8), (.no, 10), (.soft [16] [0, 3, 16, 17, 21, 22, 24, 26], 3), (.no, 4), (.soft [16] [0, 3, 16, 17, 19, 20, 24, 26], 7), (.soft [16] [0, 3, 16, 17, 19, 20, 26], 9), (.soft [16] [3, 16, 17, 19, 20], 11), (.no, 12), (.soft [16] [3, 16, 17], 13), (.no, 14), (.no, 15), (.no, 16)] := rfl
theorem plan_49_9 : E.plan 49 9 = [(.no, 0), (.no, 1), (.no, 2), (.soft [38] [3, 38, 39], 3), (.soft [38] [3, 38, 39], 4), (.no, 5), (.no, 6), (.no, 7)] := rfl
theorem plan_65_6 : E.plan 65 6 = [(.no, 0), (.no, 1), (.no, 2), (.no, 3), (.no, 4), (.no, 5), (.no, 6), (.no, 7), (.no, 8), (.no, 9), (.no, 10), (.no, 11), (.no, 12), (.no, 13), (.no, 14), (.no, 15), (.no, 16), (.no, 17), (.no, 18), (.no, 19)] := rfl
theorem plan_70_2 : E.plan 70 2 = [(.no, 0), (.no, 1), (.no, 2), (.soft [12] [3, 12, 13], 3), (.no, 4), (.no, 5), (.no, 6)] := rfl
theorem plan_72_8 : E.plan 72 8 = [(.no, 0), (.no, 1), (.no, 2), (.no, 3), (.no, 4), (.no, 5), (.no, 6), (.no, 7), (.no, 8), (.no, 9)] := rfl
theorem plan_75_1 : E.plan 75 1 = [(.no, 0), (.no, 2), (.quiet, 1), (.no, 3), (.no, 4), (.no, 5), (.no, 6)] := rfl
theorem plan_76_1 : E.plan 76 1 = [(.no, 0), (.no, 2), (.quiet, 1), (.no, 3), (.no, 4), (.no, 5), (.no, 6)] := rfl
theorem plan_83_12 : E.plan 83 12 = [(.no, 0), (.no, 1), (.no, 2), (.no, 3), (.no, 4), (.quiet, 5), (.no, 6), (.no, 7), (.no, 8), (.no, 9), (.no, 10), (.no, 11), (.no, 12), (.no, 13), (.no, 14), (.no, 15), (.no, 16), (.no, 17), (.no, 18), (.no, 19)] := rfl
theorem plan_94_10 : E.plan 94 10 = [(.no, 0), (.no, 1), (.no, 2), (.no, 3), (.no, 4), (.no, 5), (.no, 6)] := rfl
theorem plan_94_13 : E.plan 94 13 = [(.no, 0), (.no, 1), (.no, 2), (.no, 3), (.no, 4), (.no, 5), (.soft [59] [0, 56, 57, 58, 59, 60], 6), (.soft [] [0, 56], 7), (.no, 8), (.no, 9), (.no, 10)] := rfl
theorem plan_100_2 : E.plan 100 2 = [(.no, 0), (.no, 1), (.no, 2), (.no, 3), (.no, 4), (.no, 5), (.no, 6), (.no, 7), (.no, 8), (.no, 9), (.no, 10), (.no, 11), (.no, 12)] := rfl
theorem plan_100_3 : E.plan 100 3 = [(.no, 0), (.no, 1), (.no, 2), (.no, 3), (.no, 4), (.no, 5), (.no, 6), (.no, 7), (.no, 8), (.no, 9)] := rfl
theorem plan_100_4 : E.plan 100 4 = [(.no, 0), (.no, 1), (.no, 2), (.no, 3), (.no, 4), (.no, 5), (.no, 6), (.no, 7), (.no, 8), (.no, 9), (.no, 10), (.no, 11), (.no, 12), (.no, 13), (.no, 14)] := rfl
theorem plan_101_4 : E.plan 101 4 = [(.no, 0), (.no, 1), (.no, 2), (.no, 3), (.no, 4), (.no, 5), (.no, 6), (.no, 7), (.no, 8), (.no, 9), (.no, 10), (.no, 11), (.no, 12), (.no, 13), (.no, 14), (.no, 15), (.no, 16), (.no, 17), (.no, 18), (.no, 19), (.no, 20), (.no, 21), (.no, 22)] := rfl
theorem plan_106_5 : E.plan 106 5 = [(.no, 0), (.no, 1), (.no, 2), (.no, 3), (.no, 4), (.no, 5), (.no, 6), (.quiet, 7), (.soft [19] [3, 19, 20], 8), (.no, 9), (.no, 10), (.no, 11)] := rfl
theorem plan_118_4 : E.plan 118 4 = [(.no, 0), (.no, 1), (.no, 2), (.no, 3), (.no, 4), (.no, 5)] := rfl
theorem plan_124_13 : E.plan 124 13 = [(.no, 0), (.no, 1), (.no, 2), (.no, 3), (.no, 4), (.no, 5), (.no, 6), (.no, 7), (.no, 8), (.no, 9), (.quiet, 10), (.no, 11), (.no, 12), (.no, 13)] := rfl
theorem keep_3_17 : E.keep 3 17 = [10, 11, 12, 13, 14, 15, 16] := rfl
theorem keep_4_10 : E.keep 4 10 = [3, 4, 5, 6, 7, 8, 9, 10] := rfl
theorem keep_9_3 : E.keep 9 3 = [1, 5, 9, 10, 11] := rfl
theorem keep_10_3 : E.keep 10 3 = [7, 9, 10, 16, 17, 18] := rfl
theorem keep_14_5 : E.keep 14 5 = [0, 1, 4, 7, 8, 11, 12] := rfl
theorem keep_21_2 : E.keep 21 2 = [1, 3] := rfl
theorem keep_23_7 : E.keep 23 7 = [1, 2, 3, 6, 8, 9, 28, 29] := rfl
theorem keep_24_3 : E.keep 24 3 = [1, 2, 7, 12, 13, 14] := rfl
theorem keep_25_3 : E.keep 25 3 = [0, 1, 6, 7, 9, 14, 15, 16] := rfl
theorem keep_26_2 : E.keep 26 2 = [1, 6, 7, 8] := rfl
theorem keep_28_3 : E.keep 28 3 = [0, 3, 4] := rfl
theorem keep_29_5 : E.keep 29 5 = [0, 4, 5, 6, 7, 8] := rfl
theorem keep_41_3 : E.keep 41 3 = [2, 3, 14, 15, 16] := rfl
theorem keep_42_3 : E.keep 42 3 = [3, 7, 8, 9] := rfl
theorem keep_48_3 : E.keep 48 3 = [0, 2, 3, 4] := rfl
theorem keep_49_8 : E.keep 49 8 = [0, 2, 3] := rfl
theorem keep_51_3 : E.keep 51 3 = [2, 5, 8, 9, 10] := rfl
theorem keep_52_3 : E.keep 52 3 = [0, 1, 7, 9, 14, 15, 16] := rfl
theorem keep_60_3 : E.keep 60 3 = [1, 2, 3, 4, 5, 11, 16, 17, 18] := rfl
theorem keep_61_3 : E.keep 61 3 = [1, 5, 8, 9] := rfl
theorem keep_63_4 : E.keep 63 4 = [1, 28, 29, 30] := rfl
theorem keep_65_4 : E.keep 65 4 = [2, 3, 31, 32, 33] := rfl
theorem keep_66_3 : E.keep 66 3 = [0, 3, 4] := rfl
theorem keep_67_3 : E.keep 67 3 = [0, 3, 4] := rfl
theorem keep_72_6 : E.keep 72 6 = [0, 3, 6, 7, 8] := rfl
theorem keep_79_3 : E.keep 79 3 = [1, 2, 3, 4, 11, 14, 15, 16] := rfl
theorem keep_80_2 : E.keep 80 2 = [0, 1, 7, 8] := rfl
theorem keep_81_2 : E.keep 81 2 = [0, 1, 7, 8] := rfl
theorem keep_90_2 : E.keep 90 2 = [0, 1, 7, 8] := rfl
theorem keep_97_2 : E.keep 97 2 = [1, 2, 5] := rfl
theorem keep_101_2 : E.keep 101 2 = [0, 3] := rfl
theorem keep_106_3 : E.keep 106 3 = [1, 2, 3, 4] := rfl
theorem keep_107_3 : E.keep 107 3 = [0, 2, 3, 4, 11, 15, 16, 17] := rfl
theorem keep_108_2 : E.keep 108 2 = [0, 1, 7, 8] := rfl
theorem keep_114_3 : E.keep 114 3 = [1, 2, 5] := rfl
theorem keep_115_4 : E.keep 115 4 = [1, 3] := rfl
theorem keep_118_2 : E.keep 118 2 = [0, 3, 7, 8] := rfl
theorem keep_119_4 : E.keep 119 4 = [1, 2, 15, 16, 17] := rfl
theorem keep_120_5 : E.keep 120 5 = [1, 5, 15, 16] := rfl
theorem keep_126_7 : E.keep 126 7 = [0, 4, 5, 6, 7, 21, 22, 23] := rfl
theorem keep_126_3 : E.keep 126 3 = [0, 4, 5, 6] := rfl
theorem md_3 : E.md 3 = [] := rfl
theorem md_4 : E.md 4 = [] := rfl
theorem md_5 : E.md 5 = [] := rfl
theorem md_6 : E.md 6 = [] := rfl
theorem md_7 : E.md 7 = [] := rfl
theorem md_8 : E.md 8 = [] := rfl
theorem md_9 : E.md 9 = [] := rfl
theorem md_10 : E.md 10 = [] := rfl
theorem md_11 : E.md 11 = [] := rfl
theorem md_12 : E.md 12 = [] := rfl
theorem md_13 : E.md 13 = [] := rfl
theorem md_14 : E.md 14 = [] := rfl
theorem md_15 : E.md 15 = [] := rfl
theorem md_16 : E.md 16 = [] := rfl
theorem md_17 : E.md 17 = [] := rfl
theorem md_18 : E.md 18 = [] := rfl
theorem md_19 : E.md 19 = [] := rfl
theorem md_20 : E.md 20 = [] := rfl
theorem md_21 : E.md 21 = [] := rfl
theorem md_22 : E.md 22 = [] := rfl
theorem md_23 : E.md 23 = [] := rfl
theorem md_24 : E.md 24 = [] := rfl
theorem md_25 : E.md 25 = [] := rfl
theorem md_26 : E.md 26 = [] := rfl
theorem md_27 : E.md 27 = [] := rfl
theorem md_28 : E.md 28 = [.give] := rfl
theorem md_29 : E.md 29 = [.io] := rfl
theorem md_30 : E.md 30 = [.io, .ro] := rfl
theorem md_31 : E.md 31 = [.io, .ro] := rfl
theorem md_32 : E.md 32 = [.io] := rfl
theorem md_33 : E.md 33 = [] := rfl
theorem md_34 : E.md 34 = [] := rfl
theorem md_35 : E.md 35 = [] := rfl
theorem md_36 : E.md 36 = [] := rfl
theorem md_37 : E.md 37 = [] := rfl
theorem md_38 : E.md 38 = [] := rfl
theorem md_39 : E.md 39 = [] := rfl
theorem md_40 : E.md 40 = [] := rfl
theorem md_41 : E.md 41 = [] := rfl
theorem md_42 : E.md 42 = [] := rfl
theorem md_43 : E.md 43 = [] := rfl
theorem md_44 : E.md 44 = [.io, .ro] := rfl
theorem md_45 : E.md 45 = [] := rfl
theorem md_46 : E.md 46 = [] := rfl
theorem md_47 : E.md 47 = [] := rfl
theorem md_48 : E.md 48 = [.io] := rfl
theorem md_49 : E.md 49 = [.io] := rfl
theorem md_50 : E.md 50 = [.io] := rfl
theorem md_51 : E.md 51 = [] := rfl
theorem md_52 : E.md 52 = [] := rfl
theorem md_53 : E.md 53 = [] := rfl
theorem md_54 : E.md 54 = [] := rfl
theorem md_55 : E.md 55 = [] := rfl
theorem md_56 : E.md 56 = [] := rfl
theorem md_57 : E.md 57 = [] := rfl
theorem md_58 : E.md 58 = [] := rfl
theorem md_59 : E.md 59 = [] := rfl
theorem md_60 : E.md 60 = [] := rfl
theorem md_61 : E.md 61 = [] := rfl
theorem md_62 : E.md 62 = [] := rfl
theorem md_63 : E.md 63 = [.ro, .give] := rfl
theorem md_64 : E.md 64 = [] := rfl
theorem md_65 : E.md 65 = [] := rfl
theorem md_66 : E.md 66 = [.io] := rfl
theorem md_67 : E.md 67 = [.io] := rfl
theorem md_68 : E.md 68 = [.io] := rfl
theorem md_69 : E.md 69 = [.io, .ro] := rfl
theorem md_70 : E.md 70 = [.io] := rfl
theorem md_71 : E.md 71 = [] := rfl
theorem md_72 : E.md 72 = [] := rfl
theorem md_73 : E.md 73 = [.io] := rfl
theorem md_74 : E.md 74 = [] := rfl
theorem md_75 : E.md 75 = [] := rfl
theorem md_76 : E.md 76 = [] := rfl
theorem md_77 : E.md 77 = [] := rfl
theorem md_78 : E.md 78 = [] := rfl
theorem md_79 : E.md 79 = [] := rfl
theorem md_80 : E.md 80 = [] := rfl
theorem md_81 : E.md 81 = [] := rfl
theorem md_82 : E.md 82 = [] := rfl
theorem md_83 : E.md 83 = [] := rfl
theorem md_84 : E.md 84 = [] := rfl
theorem md_85 : E.md 85 = [] := rfl
theorem md_86 : E.md 86 = [] := rfl
theorem md_87 : E.md 87 = [.io] := rfl
theorem md_88 : E.md 88 = [.io] := rfl
theorem md_89 : E.md 89 = [.io] := rfl
theorem md_90 : E.md 90 = [] := rfl
theorem md_91 : E.md 91 = [] := rfl
theorem md_92 : E.md 92 = [] := rfl
theorem md_93 : E.md 93 = [] := rfl
theorem md_94 : E.md 94 = [.io, .ro, .ro, .ro] := rfl
theorem md_95 : E.md 95 = [] := rfl
theorem md_96 : E.md 96 = [] := rfl
theorem md_97 : E.md 97 = [] := rfl
theorem md_98 : E.md 98 = [] := rfl
theorem md_99 : E.md 99 = [.io, .ro] := rfl
theorem md_100 : E.md 100 = [.io] := rfl
theorem md_101 : E.md 101 = [] := rfl
theorem md_102 : E.md 102 = [] := rfl
theorem md_103 : E.md 103 = [] := rfl
theorem md_104 : E.md 104 = [] := rfl
theorem md_105 : E.md 105 = [] := rfl
theorem md_106 : E.md 106 = [] := rfl
theorem md_107 : E.md 107 = [] := rfl
theorem md_108 : E.md 108 = [] := rfl
theorem md_109 : E.md 109 = [] := rfl
theorem md_110 : E.md 110 = [] := rfl
theorem md_111 : E.md 111 = [] := rfl
theorem md_112 : E.md 112 = [] := rfl
theorem md_113 : E.md 113 = [] := rfl
theorem md_114 : E.md 114 = [] := rfl
theorem md_115 : E.md 115 = [] := rfl
theorem md_116 : E.md 116 = [] := rfl
theorem md_117 : E.md 117 = [] := rfl
theorem md_118 : E.md 118 = [] := rfl
theorem md_119 : E.md 119 = [] := rfl
theorem md_120 : E.md 120 = [] := rfl
theorem md_121 : E.md 121 = [.«mut»] := rfl
theorem md_122 : E.md 122 = [.give] := rfl
theorem md_123 : E.md 123 = [] := rfl
theorem md_124 : E.md 124 = [] := rfl
theorem md_125 : E.md 125 = [] := rfl
theorem md_126 : E.md 126 = [] := rfl
theorem md_129 : E.md 129 = [] := rfl
theorem tr_3 : E.tree 3 = false := rfl
theorem tr_4 : E.tree 4 = false := rfl
theorem tr_5 : E.tree 5 = false := rfl
theorem tr_6 : E.tree 6 = false := rfl
theorem tr_7 : E.tree 7 = false := rfl
theorem tr_8 : E.tree 8 = false := rfl
theorem tr_9 : E.tree 9 = false := rfl
theorem tr_10 : E.tree 10 = false := rfl
theorem tr_11 : E.tree 11 = false := rfl
theorem tr_12 : E.tree 12 = false := rfl
theorem tr_13 : E.tree 13 = false := rfl
theorem tr_14 : E.tree 14 = false := rfl
theorem tr_15 : E.tree 15 = false := rfl
theorem tr_16 : E.tree 16 = false := rfl
theorem tr_17 : E.tree 17 = false := rfl
theorem tr_18 : E.tree 18 = false := rfl
theorem tr_19 : E.tree 19 = false := rfl
theorem tr_20 : E.tree 20 = false := rfl
theorem tr_21 : E.tree 21 = false := rfl
theorem tr_22 : E.tree 22 = false := rfl
theorem tr_23 : E.tree 23 = false := rfl
theorem tr_24 : E.tree 24 = false := rfl
theorem tr_25 : E.tree 25 = false := rfl
theorem tr_26 : E.tree 26 = false := rfl
theorem tr_27 : E.tree 27 = false := rfl
theorem tr_28 : E.tree 28 = false := rfl
theorem tr_29 : E.tree 29 = false := rfl
theorem tr_30 : E.tree 30 = false := rfl
theorem tr_31 : E.tree 31 = false := rfl
theorem tr_32 : E.tree 32 = false := rfl
theorem tr_33 : E.tree 33 = false := rfl
theorem tr_34 : E.tree 34 = false := rfl
theorem tr_35 : E.tree 35 = false := rfl
theorem tr_36 : E.tree 36 = false := rfl
theorem tr_37 : E.tree 37 = false := rfl
theorem tr_38 : E.tree 38 = false := rfl
theorem tr_39 : E.tree 39 = false := rfl
theorem tr_40 : E.tree 40 = false := rfl
theorem tr_41 : E.tree 41 = true := rfl
theorem tr_42 : E.tree 42 = false := rfl
theorem tr_43 : E.tree 43 = false := rfl
theorem tr_44 : E.tree 44 = false := rfl
theorem tr_45 : E.tree 45 = false := rfl
theorem tr_46 : E.tree 46 = false := rfl
theorem tr_47 : E.tree 47 = false := rfl
theorem tr_48 : E.tree 48 = false := rfl
theorem tr_49 : E.tree 49 = false := rfl
theorem tr_50 : E.tree 50 = false := rfl
theorem tr_51 : E.tree 51 = false := rfl
theorem tr_52 : E.tree 52 = false := rfl
theorem tr_53 : E.tree 53 = false := rfl
theorem tr_54 : E.tree 54 = false := rfl
theorem tr_55 : E.tree 55 = false := rfl
theorem tr_56 : E.tree 56 = false := rfl
theorem tr_57 : E.tree 57 = false := rfl
theorem tr_58 : E.tree 58 = false := rfl
theorem tr_59 : E.tree 59 = false := rfl
theorem tr_60 : E.tree 60 = false := rfl
theorem tr_61 : E.tree 61 = false := rfl
theorem tr_62 : E.tree 62 = false := rfl
theorem tr_63 : E.tree 63 = false := rfl
theorem tr_64 : E.tree 64 = false := rfl
theorem tr_65 : E.tree 65 = false := rfl
theorem tr_66 : E.tree 66 = false := rfl
theorem tr_67 : E.tree 67 = false := rfl
theorem tr_68 : E.tree 68 = false := rfl
theorem tr_69 : E.tree 69 = false := rfl
theorem tr_70 : E.tree 70 = false := rfl
theorem tr_71 : E.tree 71 = false := rfl
theorem tr_72 : E.tree 72 = false := rfl
theorem tr_73 : E.tree 73 = false := rfl
theorem tr_74 : E.tree 74 = false := rfl
theorem tr_75 : E.tree 75 = false := rfl
theorem tr_76 : E.tree 76 = false := rfl
theorem tr_77 : E.tree 77 = false := rfl
theorem tr_78 : E.tree 78 = false := rfl
theorem tr_79 : E.tree 79 = false := rfl
theorem tr_80 : E.tree 80 = false := rfl
theorem tr_81 : E.tree 81 = false := rfl
theorem tr_82 : E.tree 82 = false := rfl
theorem tr_83 : E.tree 83 = false := rfl
theorem tr_84 : E.tree 84 = false := rfl
theorem tr_85 : E.tree 85 = false := rfl
theorem tr_86 : E.tree 86 = false := rfl
theorem tr_87 : E.tree 87 = false := rfl
theorem tr_88 : E.tree 88 = false := rfl
theorem tr_89 : E.tree 89 = false := rfl
theorem tr_90 : E.tree 90 = false := rfl
theorem tr_91 : E.tree 91 = false := rfl
theorem tr_92 : E.tree 92 = false := rfl
theorem tr_93 : E.tree 93 = false := rfl
theorem tr_94 : E.tree 94 = false := rfl
theorem tr_95 : E.tree 95 = false := rfl
theorem tr_96 : E.tree 96 = false := rfl
theorem tr_97 : E.tree 97 = false := rfl
theorem tr_98 : E.tree 98 = false := rfl
theorem tr_99 : E.tree 99 = false := rfl
theorem tr_100 : E.tree 100 = false := rfl
theorem tr_101 : E.tree 101 = false := rfl
theorem tr_102 : E.tree 102 = false := rfl
theorem tr_103 : E.tree 103 = false := rfl
theorem tr_104 : E.tree 104 = false := rfl
theorem tr_105 : E.tree 105 = false := rfl
theorem tr_106 : E.tree 106 = true := rfl
theorem tr_107 : E.tree 107 = false := rfl
theorem tr_108 : E.tree 108 = false := rfl
theorem tr_109 : E.tree 109 = false := rfl
theorem tr_110 : E.tree 110 = false := rfl
theorem tr_111 : E.tree 111 = false := rfl
theorem tr_112 : E.tree 112 = false := rfl
theorem tr_113 : E.tree 113 = false := rfl
theorem tr_114 : E.tree 114 = false := rfl
theorem tr_115 : E.tree 115 = false := rfl
theorem tr_116 : E.tree 116 = false := rfl
theorem tr_117 : E.tree 117 = false := rfl
theorem tr_118 : E.tree 118 = false := rfl
theorem tr_119 : E.tree 119 = false := rfl
theorem tr_120 : E.tree 120 = false := rfl
theorem tr_123 : E.tree 123 = false := rfl
theorem tr_124 : E.tree 124 = false := rfl
theorem tr_125 : E.tree 125 = false := rfl
theorem tr_126 : E.tree 126 = false := rfl
theorem tr_129 : E.tree 129 = false := rfl
theorem MDS : type_of% (And.intro (And.intro (And.intro (And.intro (And.intro (And.intro (And.intro @md_3 (And.intro @md_4 @md_5)) (And.intro (And.intro @md_6 @md_7) (And.intro @md_8 @md_9))) (And.intro (And.intro (And.intro @md_10 @md_11) (And.intro @md_12 @md_13)) (And.intro (And.intro @md_14 @md_15) (And.intro @md_16 @md_17)))) (And.intro (And.intro (And.intro (And.intro @md_18 @md_19) (And.intro @md_20 @md_21)) (And.intro (And.intro @md_22 @md_23) (And.intro @md_24 @md_25))) (And.intro (And.intro (And.intro @md_26 @md_27) (And.intro @md_28 @md_29)) (And.intro (And.intro @md_30 @md_31) (And.intro @md_32 @md_33))))) (And.intro (And.intro (And.intro (And.intro @md_34 (And.intro @md_35 @md_36)) (And.intro (And.intro @md_37 @md_38) (And.intro @md_39 @md_40))) (And.intro (And.intro (And.intro @md_41 @md_42) (And.intro @md_43 @md_44)) (And.intro (And.intro @md_45 @md_46) (And.intro @md_47 @md_48)))) (And.intro (And.intro (And.intro (And.intro @md_49 @md_50) (And.intro @md_51 @md_52)) (And.intro (And.intro @md_53 @md_54) (And.intro @md_55 @md_56))) (And.intro (And.intro (And.intro @md_57 @md_58) (And.intro @md_59 @md_60)) (And.intro (And.intro @md_61 @md_62) (And.intro @md_63 @md_64)))))) (And.intro (And.intro (And.intro (And.intro (And.intro @md_65 (And.intro @md_66 @md_67)) (And.intro (And.intro @md_68 @md_69) (And.intro @md_70 @md_71))) (And.intro (And.intro (And.intro @md_72 @md_73) (And.intro @md_74 @md_75)) (And.intro (And.intro @md_76 @md_77) (And.intro @md_78 @md_79)))) (And.intro (And.intro (And.intro (And.intro @md_80 @md_81) (And.intro @md_82 @md_83)) (And.intro (And.intro @md_84 @md_85) (And.intro @md_86 @md_87))) (And.intro (And.intro (And.intro @md_88 @md_89) (And.intro @md_90 @md_91)) (And.intro (And.intro @md_92 @md_93) (And.intro @md_94 @md_95))))) (And.intro (And.intro (And.intro (And.intro @md_96 (And.intro @md_97 @md_98)) (And.intro (And.intro @md_99 @md_100) (And.intro @md_101 @md_102))) (And.intro (And.intro (And.intro @md_103 @md_104) (And.intro @md_105 @md_106)) (And.intro (And.intro @md_107 @md_108) (And.intro @md_109 @md_110)))) (And.intro (And.intro (And.intro (And.intro @md_111 @md_112) (And.intro @md_113 @md_114)) (And.intro (And.intro @md_115 @md_116) (And.intro @md_117 @md_118))) (And.intro (And.intro (And.intro @md_119 @md_120) (And.intro @md_121 @md_122)) (And.intro (And.intro @md_123 @md_124) (And.intro @md_125 @md_126))))))) (And.intro (And.intro (And.intro (And.intro (And.intro (And.intro @md_129 (And.intro @tr_3 @tr_4)) (And.intro (And.intro @tr_5 @tr_6) (And.intro @tr_7 @tr_8))) (And.intro (And.intro (And.intro @tr_9 @tr_10) (And.intro @tr_11 @tr_12)) (And.intro (And.intro @tr_13 @tr_14) (And.intro @tr_15 @tr_16)))) (And.intro (And.intro (And.intro (And.intro @tr_17 @tr_18) (And.intro @tr_19 @tr_20)) (And.intro (And.intro @tr_21 @tr_22) (And.intro @tr_23 @tr_24))) (And.intro (And.intro (And.intro @tr_25 @tr_26) (And.intro @tr_27 @tr_28)) (And.intro (And.intro @tr_29 @tr_30) (And.intro @tr_31 @tr_32))))) (And.intro (And.intro (And.intro (And.intro @tr_33 (And.intro @tr_34 @tr_35)) (And.intro (And.intro @tr_36 @tr_37) (And.intro @tr_38 @tr_39))) (And.intro (And.intro (And.intro @tr_40 @tr_41) (And.intro @tr_42 @tr_43)) (And.intro (And.intro @tr_44 @tr_45) (And.intro @tr_46 @tr_47)))) (And.intro (And.intro (And.intro (And.intro @tr_48 @tr_49) (And.intro @tr_50 @tr_51)) (And.intro (And.intro @tr_52 @tr_53) (And.intro @tr_54 @tr_55))) (And.intro (And.intro (And.intro @tr_56 @tr_57) (And.intro @tr_58 @tr_59)) (And.intro (And.intro @tr_60 @tr_61) (And.intro @tr_62 @tr_63)))))) (And.intro (And.intro (And.intro (And.intro (And.intro @tr_64 (And.intro @tr_65 @tr_66)) (And.intro (And.intro @tr_67 @tr_68) (And.intro @tr_69 @tr_70))) (And.intro (And.intro (And.intro @tr_71 @tr_72) (And.intro @tr_73 @tr_74)) (And.intro (And.intro @tr_75 @tr_76) (And.intro @tr_77 @tr_78)))) (And.intro (And.intro (And.intro (And.intro @tr_79 @tr_80) (And.intro @tr_81 @tr_82)) (And.intro (And.intro @tr_83 @tr_84) (And.intro @tr_85 @tr_86))) (And.intro (And.intro (And.intro @tr_87 @tr_88) (And.intro @tr_89 @tr_90)) (And.intro (And.intro @tr_91 @tr_92) (And.intro @tr_93 @tr_94))))) (And.intro (And.intro (And.intro (And.intro @tr_95 (And.intro @tr_96 @tr_97)) (And.intro (And.intro @tr_98 @tr_99) (And.intro @tr_100 @tr_101))) (And.intro (And.intro (And.intro @tr_102 @tr_103) (And.intro @tr_104 @tr_105)) (And.intro (And.intro @tr_106 @tr_107) (And.intro @tr_108 @tr_109)))) (And.intro (And.intro (And.intro (And.intro @tr_110 @tr_111) (And.intro @tr_112 @tr_113)) (And.intro (And.intro @tr_114 @tr_115) (And.intro @tr_116 @tr_117))) (And.intro (And.intro (And.intro @tr_118 @tr_119) (And.intro @tr_120 @tr_123)) (And.intro (And.intro @tr_124 @tr_125) (And.intro @tr_126 @tr_129)))))))) := (And.intro (And.intro (And.intro (And.intro (And.intro (And.intro (And.intro @md_3 (And.intro @md_4 @md_5)) (And.intro (And.intro @md_6 @md_7) (And.intro @md_8 @md_9))) (And.intro (And.intro (And.intro @md_10 @md_11) (And.intro @md_12 @md_13)) (And.intro (And.intro @md_14 @md_15) (And.intro @md_16 @md_17)))) (And.intro (And.intro (And.intro (And.intro @md_18 @md_19) (And.intro @md_20 @md_21)) (And.intro (And.intro @md_22 @md_23) (And.intro @md_24 @md_25))) (And.intro (And.intro (And.intro @md_26 @md_27) (And.intro @md_28 @md_29)) (And.intro (And.intro @md_30 @md_31) (And.intro @md_32 @md_33))))) (And.intro (And.intro (And.intro (And.intro @md_34 (And.intro @md_35 @md_36)) (And.intro (And.intro @md_37 @md_38) (And.intro @md_39 @md_40))) (And.intro (And.intro (And.intro @md_41 @md_42) (And.intro @md_43 @md_44)) (And.intro (And.intro @md_45 @md_46) (And.intro @md_47 @md_48)))) (And.intro (And.intro (And.intro (And.intro @md_49 @md_50) (And.intro @md_51 @md_52)) (And.intro (And.intro @md_53 @md_54) (And.intro @md_55 @md_56))) (And.intro (And.intro (And.intro @md_57 @md_58) (And.intro @md_59 @md_60)) (And.intro (And.intro @md_61 @md_62) (And.intro @md_63 @md_64)))))) (And.intro (And.intro (And.intro (And.intro (And.intro @md_65 (And.intro @md_66 @md_67)) (And.intro (And.intro @md_68 @md_69) (And.intro @md_70 @md_71))) (And.intro (And.intro (And.intro @md_72 @md_73) (And.intro @md_74 @md_75)) (And.intro (And.intro @md_76 @md_77) (And.intro @md_78 @md_79)))) (And.intro (And.intro (And.intro (And.intro @md_80 @md_81) (And.intro @md_82 @md_83)) (And.intro (And.intro @md_84 @md_85) (And.intro @md_86 @md_87))) (And.intro (And.intro (And.intro @md_88 @md_89) (And.intro @md_90 @md_91)) (And.intro (And.intro @md_92 @md_93) (And.intro @md_94 @md_95))))) (And.intro (And.intro (And.intro (And.intro @md_96 (And.intro @md_97 @md_98)) (And.intro (And.intro @md_99 @md_100) (And.intro @md_101 @md_102))) (And.intro (And.intro (And.intro @md_103 @md_104) (And.intro @md_105 @md_106)) (And.intro (And.intro @md_107 @md_108) (And.intro @md_109 @md_110)))) (And.intro (And.intro (And.intro (And.intro @md_111 @md_112) (And.intro @md_113 @md_114)) (And.intro (And.intro @md_115 @md_116) (And.intro @md_117 @md_118))) (And.intro (And.intro (And.intro @md_119 @md_120) (And.intro @md_121 @md_122)) (And.intro (And.intro @md_123 @md_124) (And.intro @md_125 @md_126))))))) (And.intro (And.intro (And.intro (And.intro (And.intro (And.intro @md_129 (And.intro @tr_3 @tr_4)) (And.intro (And.intro @tr_5 @tr_6) (And.intro @tr_7 @tr_8))) (And.intro (And.intro (And.intro @tr_9 @tr_10) (And.intro @tr_11 @tr_12)) (And.intro (And.intro @tr_13 @tr_14) (And.intro @tr_15 @tr_16)))) (And.intro (And.intro (And.intro (And.intro @tr_17 @tr_18) (And.intro @tr_19 @tr_20)) (And.intro (And.intro @tr_21 @tr_22) (And.intro @tr_23 @tr_24))) (And.intro (And.intro (And.intro @tr_25 @tr_26) (And.intro @tr_27 @tr_28)) (And.intro (And.intro @tr_29 @tr_30) (And.intro @tr_31 @tr_32))))) (And.intro (And.intro (And.intro (And.intro @tr_33 (And.intro @tr_34 @tr_35)) (And.intro (And.intro @tr_36 @tr_37) (And.intro @tr_38 @tr_39))) (And.intro (And.intro (And.intro @tr_40 @tr_41) (And.intro @tr_42 @tr_43)) (And.intro (And.intro @tr_44 @tr_45) (And.intro @tr_46 @tr_47)))) (And.intro (And.intro (And.intro (And.intro @tr_48 @tr_49) (And.intro @tr_50 @tr_51)) (And.intro (And.intro @tr_52 @tr_53) (And.intro @tr_54 @tr_55))) (And.intro (And.intro (And.intro @tr_56 @tr_57) (And.intro @tr_58 @tr_59)) (And.intro (And.intro @tr_60 @tr_61) (And.intro @tr_62 @tr_63)))))) (And.intro (And.intro (And.intro (And.intro (And.intro @tr_64 (And.intro @tr_65 @tr_66)) (And.intro (And.intro @tr_67 @tr_68) (And.intro @tr_69 @tr_70))) (And.intro (And.intro (And.intro @tr_71 @tr_72) (And.intro @tr_73 @tr_74)) (And.intro (And.intro @tr_75 @tr_76) (And.intro @tr_77 @tr_78)))) (And.intro (And.intro (And.intro (And.intro @tr_79 @tr_80) (And.intro @tr_81 @tr_82)) (And.intro (And.intro @tr_83 @tr_84) (And.intro @tr_85 @tr_86))) (And.intro (And.intro (And.intro @tr_87 @tr_88) (And.intro @tr_89 @tr_90)) (And.intro (And.intro @tr_91 @tr_92) (And.intro @tr_93 @tr_94))))) (And.intro (And.intro (And.intro (And.intro @tr_95 (And.intro @tr_96 @tr_97)) (And.intro (And.intro @tr_98 @tr_99) (And.intro @tr_100 @tr_101))) (And.intro (And.intro (And.intro @tr_102 @tr_103) (And.intro @tr_104 @tr_105)) (And.intro (And.intro @tr_106 @tr_107) (And.intro @tr_108 @tr_109)))) (And.intro (And.intro (And.intro (And.intro @tr_110 @tr_111) (And.intro @tr_112 @tr_113)) (And.intro (And.intro @tr_114 @tr_115) (And.intro @tr_116 @tr_117))) (And.intro (And.intro (And.intro @tr_118 @tr_119) (And.intro @tr_120 @tr_123)) (And.intro (And.intro @tr_124 @tr_125) (And.intro @tr_126 @tr_129))))))))
theorem TIS : type_of% (And.intro (And.intro (And.intro (And.intro (And.intro @ti3 @ti4) (And.intro @ti5 (And.intro @ti22 @sl22))) (And.intro (And.intro @ti24 @sl24) (And.intro @ti25 (And.intro @sl25 @ti26)))) (And.intro (And.intro (And.intro @sl26 @ti28) (And.intro @is28 (And.intro @ti30 @is30))) (And.intro (And.intro @ti35 (And.intro @sl35 @ti44)) (And.intro @sl44 (And.intro @ti46 @is46))))) (And.intro (And.intro (And.intro (And.intro @ti53 @is53) (And.intro @ti54 (And.intro @sl54 @ti56))) (And.intro (And.intro @is56 (And.intro @ti58 @is58)) (And.intro @ti74 (And.intro @is74 @ti90)))) (And.intro (And.intro (And.intro @sl90 @ti98) (And.intro @is98 (And.intro @ti101 @is101))) (And.intro (And.intro @ti125 (And.intro @is125 @ti140)) (And.intro @na140 (And.intro @ar140 @ns140)))))) := (And.intro (And.intro (And.intro (And.intro (And.intro @ti3 @ti4) (And.intro @ti5 (And.intro @ti22 @sl22))) (And.intro (And.intro @ti24 @sl24) (And.intro @ti25 (And.intro @sl25 @ti26)))) (And.intro (And.intro (And.intro @sl26 @ti28) (And.intro @is28 (And.intro @ti30 @is30))) (And.intro (And.intro @ti35 (And.intro @sl35 @ti44)) (And.intro @sl44 (And.intro @ti46 @is46))))) (And.intro (And.intro (And.intro (And.intro @ti53 @is53) (And.intro @ti54 (And.intro @sl54 @ti56))) (And.intro (And.intro @is56 (And.intro @ti58 @is58)) (And.intro @ti74 (And.intro @is74 @ti90)))) (And.intro (And.intro (And.intro @sl90 @ti98) (And.intro @is98 (And.intro @ti101 @is101))) (And.intro (And.intro @ti125 (And.intro @is125 @ti140)) (And.intro @na140 (And.intro @ar140 @ns140))))))
end Go.Proofs.YtigfcbcnfppmcaaGreat.Flat
