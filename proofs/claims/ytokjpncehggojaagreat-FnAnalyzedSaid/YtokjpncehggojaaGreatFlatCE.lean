/-
The program's functions, and how they are reckoned with: tables.
-/
import Derived.Test.YtokjpncehggojaaGreatFlatM5
import Derived.Test.YtokjpncehggojaaGreatFlatM4
import Derived.Test.YtokjpncehggojaaGreatProg
import Derived.KernelRfl
set_option linter.unusedVariables false
set_option linter.unusedSimpArgs false
namespace Go.Proofs.YtokjpncehggojaaGreat.Flat
def keepT : Nat → Nat → List Nat
  | 3, 17 => [0, 3, 4, 5, 6, 7, 8, 9, 10, 11, 12]
  | 3, 12 => [0, 3, 4, 5, 6, 7, 8, 9, 10]
  | 3, 9 => [0, 3, 4, 5, 6, 7, 8, 9]
  | 6, 3 => [0, 1, 7, 9, 14, 15, 16]
  | 7, 6 => [1, 3, 4, 5, 10, 11, 12, 18, 19, 20]
  | 7, 3 => [1, 3, 10, 11, 12]
  | 8, 4 => [0, 1, 5]
  | 9, 3 => [0, 1, 6, 7, 9, 10]
  | 10, 4 => [2, 4, 5, 6]
  | 11, 8 => [2, 5, 6, 7, 23]
  | 11, 5 => [2, 5, 23]
  | 14, 3 => [1, 4, 5, 13, 14, 15]
  | 16, 15 => [2, 3, 4, 5, 13, 61, 62]
  | 16, 7 => [2, 3, 4, 5, 13, 41, 42, 43]
  | 17, 3 => [0, 3, 4]
  | 18, 5 => [0, 4, 5, 6, 7, 8]
  | 19, 3 => [0, 2, 3, 4]
  | 23, 7 => [2, 3, 5, 25, 26]
  | 30, 3 => [1, 2, 3, 4]
  | 33, 5 => [2, 3, 4, 5, 9, 25, 26]
  | 36, 3 => [2, 5, 8, 9, 10]
  | 37, 3 => [3, 7, 8, 9]
  | 38, 3 => [1, 2, 3, 4]
  | 41, 7 => [1, 2, 3, 6, 8, 9, 28, 29]
  | 42, 4 => [1, 28, 29, 30]
  | 43, 3 => [1, 5, 8, 9]
  | 44, 3 => [1, 2, 3, 4, 5, 11, 16, 17, 18]
  | 45, 3 => [0, 3, 4]
  | 46, 3 => [0, 3, 4]
  | 50, 6 => [0, 3, 6, 7, 8]
  | 70, 3 => [2, 3, 14, 15, 16]
  | 72, 3 => [1, 2, 7, 12, 13, 14]
  | 77, 2 => [0, 3]
  | 82, 3 => [3, 7, 8, 9]
  | 86, 3 => [1, 2, 3, 4, 11, 14, 15, 16]
  | 88, 2 => [0, 1, 7, 8]
  | 90, 3 => [1, 2, 5]
  | 91, 4 => [1, 3]
  | 93, 2 => [0, 1, 7, 8]
  | 95, 4 => [1, 2, 15, 16, 17]
  | 101, 3 => [0, 2, 3, 4, 11, 15, 16, 17]
  | 102, 2 => [0, 1, 7, 8]
  | 107, 2 => [0, 1, 2, 3, 4, 5, 13]
  | 108, 3 => [0, 1, 2, 3, 4, 11, 12]
  | 109, 2 => [0, 3, 7, 8]
  | 112, 2 => [0, 1, 7, 8]
  | 113, 5 => [1, 5, 15, 16]
  | 120, 2 => [0, 1, 5]
  | 121, 13 => [11, 15, 16]
  | 121, 8 => [0, 1, 2, 3, 4, 11, 12, 13, 14]
  | 121, 3 => [0, 1, 2, 3, 4, 11, 12]
  | 124, 7 => [0, 4, 5, 6, 7, 21, 22, 23]
  | 124, 3 => [0, 4, 5, 6]
  | 128, 15 => [5, 6, 9]
  | 128, 10 => [0, 5, 6, 7, 8]
  | 128, 7 => [0, 5, 6, 7]
  | _, _ => []
def planT : Nat → Nat → List (Qt × Nat)
  | 3, 14 => [(.no, 0), (.no, 1), (.no, 2), (.no, 3), (.no, 4), (.no, 5), (.no, 6), (.no, 7), (.no, 8), (.no, 9), (.no, 10), (.no, 11), (.no, 12), (.no, 13), (.no, 14), (.no, 15), (.no, 16), (.no, 17), (.no, 18), (.no, 19), (.no, 20), (.no, 21)]
  | 3, 19 => [(.no, 0), (.no, 1), (.no, 2), (.no, 3), (.no, 4), (.no, 5), (.no, 6), (.no, 7), (.no, 8), (.no, 9), (.no, 10), (.no, 11), (.no, 12), (.no, 13), (.no, 14), (.no, 15), (.no, 16), (.no, 17)]
  | 3, 23 => [(.frz 13, 0), (.no, 1), (.no, 2), (.no, 3), (.no, 4), (.no, 5), (.no, 6), (.no, 7), (.no, 8), (.no, 9), (.no, 10), (.no, 11), (.no, 13), (.no, 14), (.no, 15), (.no, 16), (.no, 18), (.quiet, 12), (.quiet, 17), (.no, 19), (.no, 20), (.no, 21)]
  | 3, 29 => [(.no, 0), (.no, 1), (.no, 2), (.no, 3), (.no, 4), (.no, 5), (.no, 6), (.no, 7), (.no, 8), (.no, 9), (.no, 10), (.no, 12), (.no, 13), (.no, 14), (.no, 15), (.quiet, 11), (.no, 16), (.no, 17), (.no, 18), (.no, 19)]
  | 5, 3 => [(.no, 0), (.no, 1), (.no, 2), (.no, 4), (.soft [9] [7, 8, 9, 18, 19, 22], 3), (.quiet, 5), (.quiet, 6), (.soft [9] [9, 22], 7), (.no, 8)]
  | 8, 6 => [(.no, 0), (.no, 1), (.no, 2), (.no, 3), (.no, 4), (.no, 5), (.no, 6), (.no, 7), (.no, 8)]
  | 9, 5 => [(.no, 0), (.no, 1), (.no, 2), (.no, 3), (.no, 4), (.no, 5), (.no, 6), (.no, 7), (.no, 8), (.no, 9), (.no, 10), (.no, 11), (.no, 12), (.no, 13), (.no, 14), (.no, 15), (.no, 16), (.no, 17), (.no, 18), (.no, 19), (.no, 20), (.no, 21)]
  | 10, 13 => [(.no, 0), (.no, 1), (.no, 2), (.no, 3), (.no, 4), (.no, 5), (.soft [5] [5, 46], 6), (.no, 7), (.no, 8)]
  | 13, 3 => [(.no, 0), (.no, 1), (.no, 2), (.no, 3), (.no, 4), (.quiet, 5), (.no, 6), (.no, 7)]
  | 15, 7 => [(.no, 0), (.no, 1), (.soft [7] [7, 27], 2), (.no, 3), (.no, 4)]
  | 15, 9 => [(.no, 0), (.no, 1), (.no, 2), (.no, 3), (.soft [7, 8] [7, 8, 10, 33, 34, 35], 4), (.soft [8] [8, 10, 34, 35], 5), (.soft [] [10, 35], 6), (.no, 7), (.no, 8)]
  | 18, 17 => [(.no, 0), (.no, 1), (.no, 2), (.soft [47] [7, 47, 48], 3), (.no, 4), (.no, 5), (.no, 6), (.no, 7)]
  | 18, 18 => [(.no, 0), (.no, 1), (.no, 2), (.soft [54] [7, 54, 55], 3), (.no, 4), (.no, 5), (.no, 6)]
  | 18, 20 => [(.no, 0), (.no, 1), (.no, 2), (.quiet, 3), (.quiet, 4), (.no, 5)]
  | 19, 5 => [(.no, 0), (.no, 1), (.no, 2), (.soft [15] [3, 15, 16], 3), (.soft [15] [3, 15, 16], 4), (.no, 5), (.no, 6), (.no, 7)]
  | 23, 3 => [(.no, 0), (.no, 1), (.quiet, 2), (.no, 3), (.no, 4)]
  | 28, 9 => [(.no, 0), (.no, 1), (.no, 2), (.no, 3), (.soft [5] [5, 31], 4), (.no, 5), (.no, 6)]
  | 28, 11 => [(.no, 0), (.no, 1), (.no, 2), (.no, 3), (.soft [6] [6, 41], 4), (.no, 5), (.no, 6)]
  | 30, 5 => [(.no, 0), (.no, 1), (.no, 2), (.no, 3), (.no, 4), (.no, 5), (.no, 6), (.quiet, 7), (.soft [19] [3, 19, 20], 8), (.no, 9), (.no, 10), (.no, 11)]
  | 33, 8 => [(.no, 0), (.no, 1), (.no, 2), (.no, 3), (.no, 4), (.no, 5), (.no, 7), (.no, 8), (.no, 9), (.no, 10), (.no, 11), (.no, 12), (.quiet, 6), (.no, 13), (.no, 14)]
  | 39, 3 => [(.frz 5, 1), (.no, 2), (.no, 3), (.no, 4), (.no, 6), (.no, 7), (.no, 8), (.no, 9), (.no, 10), (.soft [15, 20] [1, 5, 15, 16, 17, 18, 20, 21, 22, 23, 24], 0), (.soft [20] [1, 5, 20, 21, 22, 23, 24], 5), (.no, 11), (.no, 12), (.no, 13)]
  | 41, 9 => [(.no, 0), (.no, 1), (.no, 2), (.no, 3), (.no, 4), (.no, 5), (.no, 6), (.no, 7), (.quiet, 8), (.quiet, 9), (.soft [] [9, 32], 10), (.no, 11), (.no, 12)]
  | 48, 2 => [(.no, 0), (.no, 1), (.no, 2), (.soft [12] [3, 12, 13], 3), (.no, 4), (.no, 5), (.no, 6)]
  | 50, 8 => [(.no, 0), (.no, 1), (.no, 2), (.no, 3), (.no, 4), (.no, 5), (.no, 6), (.no, 7), (.no, 8), (.no, 9)]
  | 54, 9 => [(.no, 0), (.no, 1), (.no, 2), (.no, 3), (.no, 4), (.no, 5), (.no, 6), (.no, 8), (.no, 9), (.quiet, 7), (.no, 10), (.no, 11)]
  | 54, 11 => [(.no, 0), (.no, 1), (.no, 2), (.no, 3), (.no, 4), (.no, 5), (.no, 6), (.no, 8), (.no, 9), (.quiet, 7), (.no, 10), (.no, 11)]
  | 58, 3 => [(.no, 0), (.no, 1), (.no, 2), (.no, 3), (.no, 4), (.no, 5), (.no, 6), (.no, 7), (.no, 8), (.no, 9)]
  | 58, 5 => [(.no, 0), (.no, 1), (.no, 2), (.no, 3), (.no, 4), (.no, 5), (.no, 6), (.no, 7), (.no, 8), (.no, 9), (.no, 10), (.no, 11), (.no, 12), (.no, 13), (.no, 14), (.no, 15), (.no, 16), (.no, 17), (.no, 18)]
  | 58, 7 => [(.no, 0), (.no, 1), (.no, 2), (.no, 3), (.no, 4), (.no, 5), (.no, 6), (.no, 7), (.no, 8), (.no, 9), (.no, 10), (.no, 11), (.no, 12), (.no, 13), (.no, 14), (.no, 15), (.no, 16), (.no, 17), (.no, 18)]
  | 59, 2 => [(.no, 0), (.no, 1), (.no, 2), (.no, 3), (.no, 4), (.no, 5), (.no, 6), (.no, 7), (.no, 8), (.no, 9), (.no, 10), (.no, 11), (.no, 12)]
  | 59, 3 => [(.no, 0), (.no, 1), (.no, 2), (.no, 3), (.no, 4), (.no, 5), (.no, 6), (.no, 7), (.no, 8), (.no, 9)]
  | 59, 4 => [(.no, 0), (.no, 1), (.no, 2), (.no, 3), (.no, 4), (.no, 5), (.no, 6), (.no, 7), (.no, 8), (.no, 9), (.no, 10), (.no, 11), (.no, 12), (.no, 13), (.no, 14)]
  | 63, 1 => [(.no, 0), (.no, 2), (.quiet, 1), (.no, 3), (.no, 4), (.no, 5), (.no, 6)]
  | 64, 1 => [(.no, 0), (.no, 2), (.quiet, 1), (.no, 3), (.no, 4), (.no, 5), (.no, 6)]
  | 70, 5 => [(.no, 0), (.no, 1), (.no, 2), (.quiet, 3), (.soft [20] [3, 20, 21], 4), (.no, 5), (.no, 6), (.no, 7)]
  | 77, 4 => [(.no, 0), (.no, 1), (.no, 2), (.no, 3), (.no, 4), (.no, 5), (.no, 6), (.no, 7), (.no, 8), (.no, 9), (.no, 10), (.no, 11), (.no, 12), (.no, 13), (.no, 14), (.no, 15), (.no, 16), (.no, 17), (.no, 18), (.no, 19), (.no, 20), (.no, 21), (.no, 22)]
  | 92, 9 => [(.no, 0), (.no, 1), (.no, 2), (.no, 3), (.no, 4), (.no, 5), (.no, 6), (.no, 8), (.no, 9), (.quiet, 7), (.no, 10), (.no, 11)]
  | 92, 11 => [(.no, 0), (.no, 1), (.no, 2), (.no, 3), (.no, 4), (.no, 5), (.no, 6), (.no, 8), (.no, 9), (.quiet, 7), (.no, 10), (.no, 11)]
  | 94, 10 => [(.no, 0), (.no, 1), (.no, 2), (.no, 3), (.no, 4), (.no, 5), (.no, 6)]
  | 94, 13 => [(.no, 0), (.no, 1), (.no, 2), (.no, 3), (.no, 4), (.no, 5), (.soft [59] [0, 56, 57, 58, 59, 60], 6), (.soft [] [0, 56], 7), (.no, 8), (.no, 9), (.no, 10)]
  | 98, 12 => [(.no, 0), (.no, 1), (.no, 2), (.no, 3), (.no, 4), (.quiet, 5), (.no, 6), (.no, 7), (.no, 8), (.no, 9), (.no, 10), (.no, 11), (.no, 12), (.no, 13), (.no, 14), (.no, 15), (.no, 16), (.no, 17), (.no, 18), (.no, 19)]
  | 105, 13 => [(.no, 0), (.no, 1), (.no, 2), (.no, 3), (.no, 4), (.no, 5), (.no, 6), (.no, 7), (.no, 8), (.no, 9), (.quiet, 10), (.no, 11), (.no, 12), (.no, 13)]
  | 109, 4 => [(.no, 0), (.no, 1), (.no, 2), (.no, 3), (.no, 4), (.no, 5)]
  | _, _ => []
def okT : List Nat := [3, 4, 5, 6, 7, 8, 9, 10, 11, 12, 13, 14, 15, 16, 17, 18, 19, 20, 21, 22, 23, 24, 25, 26, 27, 28, 29, 30, 31, 32, 33, 34, 35, 36, 37, 38, 39, 40, 41, 42, 43, 44, 45, 46, 47, 48, 49, 50, 51, 52, 53, 54, 55, 56, 57, 58, 59, 60, 61, 62, 63, 64, 65, 66, 67, 68, 69, 70, 71, 72, 73, 74, 75, 76, 77, 78, 79, 80, 81, 82, 83, 84, 85, 86, 87, 88, 89, 90, 91, 92, 93, 94, 95, 96, 97, 98, 99, 100, 101, 102, 103, 104, 105, 106, 107, 108, 109, 110, 111, 112, 113, 116, 117, 118, 119, 120, 121, 122, 123, 124, 127, 128, 129, 130, 142]
def treeT : List Nat := [30, 38, 70]
def mdT : Nat → List Mode
  | 17 => [.give]
  | 18 => [.io]
  | 19 => [.io]
  | 26 => [.io, .ro]
  | 27 => [.io]
  | 28 => [.io, .ro]
  | 29 => [.io, .ro]
  | 40 => [.io, .ro]
  | 42 => [.ro, .give]
  | 45 => [.io]
  | 46 => [.io]
  | 47 => [.io]
  | 48 => [.io]
  | 59 => [.io]
  | 60 => [.io, .ro]
  | 61 => [.io]
  | 94 => [.io, .ro, .ro, .ro]
  | 114 => [.«mut»]
  | 115 => [.give]
  | _ => []
noncomputable def E : Env := { P := Go.Proofs.Tryz.prog, md := mdT, keep := keepT, plan := planT, ok := fun f => okT.contains f, tree := fun f => treeT.contains f }
theorem mixed : E.P.follows .mixedOrders = true := by kernel_rfl
def good1 (P : Program) (plan : Nat → Nat → List (Qt × Nat)) (md : Nat → List Mode) (f : Nat) : Bool :=
  match P.funcs[f]? with
  | some fn => (match fn.body with | some c => codeOK (plan f) c && codePin (mutSlots 0 (md f)) c | none => true) && !(fn.name == "runtime.NumGoroutine")
  | none => true
theorem good1_ok {E : Env} {l : List Nat} (ho : ∀ f, E.ok f = true → f ∈ l) (h : l.all (good1 E.P E.plan E.md) = true) : Sound E := by
  intro f hf fn c hfn hc
  have h1 := List.all_eq_true.1 h f (ho f hf)
  simp -implicitDefEqProofs only [good1, hfn, hc, Bool.and_eq_true, Bool.not_eq_true', beq_eq_false_iff_ne, ne_eq] at h1
  exact ⟨h1.1.1, h1.2, h1.1.2⟩
theorem sound : Sound E := good1_ok (l := okT) (fun f hf => by simpa [E] using hf) (by kernel_rfl)
def extT : Nat → Option (List AV → List (List AV) → Option (AV × List (List AV)))
  | 114 => some sortExt
  | 115 => some compactExt
  | _ => none
abbrev noExt : Nat → Option (List AV → List (List AV) → Option (AV × List (List AV))) := extT
theorem ext_114 : noExt 114 = some sortExt := rfl
theorem ext_115 : noExt 115 = some compactExt := rfl
abbrev nSort : Nat := 114
abbrev nCompact : Nat := 115
abbrev tBool : Nat := 4
theorem tagBool : tagOf E.P 4 = .bool := by kernel_rfl
theorem one_ne : (1 = 0) = False := by simp
theorem ti3 : tiOf E.P 3 = some { tag := Tag.int IntKind.i64, agg := false, size := 1, bytes := 8, zero := some (Value.int IntKind.i64 0), elem := 0, fields := [], eqs := none } := by kernel_rfl
theorem ti4 : tiOf E.P 4 = some { tag := Tag.bool, agg := false, size := 1, bytes := 1, zero := some (Value.bool false), elem := 0, fields := [], eqs := none } := by kernel_rfl
theorem ti5 : tiOf E.P 5 = some { tag := Tag.int IntKind.u8, agg := false, size := 1, bytes := 1, zero := some (Value.int IntKind.u8 0), elem := 0, fields := [], eqs := none } := by kernel_rfl
theorem ti22 : tiOf E.P 22 = some { tag := Tag.slice, agg := false, size := 1, bytes := 24, zero := some (Value.slice none 0 0), elem := 5, fields := [], eqs := none } := by kernel_rfl
theorem sl22 : isSliceT E.P 22 = true := by kernel_rfl
theorem ti24 : tiOf E.P 24 = some { tag := Tag.slice, agg := false, size := 1, bytes := 24, zero := some (Value.slice none 0 0), elem := 113, fields := [], eqs := none } := by kernel_rfl
theorem sl24 : isSliceT E.P 24 = true := by kernel_rfl
theorem ti25 : tiOf E.P 25 = some { tag := Tag.slice, agg := false, size := 1, bytes := 24, zero := some (Value.slice none 0 0), elem := 92, fields := [], eqs := none } := by kernel_rfl
theorem sl25 : isSliceT E.P 25 = true := by kernel_rfl
theorem ti26 : tiOf E.P 26 = some { tag := Tag.slice, agg := false, size := 1, bytes := 24, zero := some (Value.slice none 0 0), elem := 42, fields := [], eqs := none } := by kernel_rfl
theorem sl26 : isSliceT E.P 26 = true := by kernel_rfl
theorem ti28 : tiOf E.P 28 = some { tag := Tag.struct, agg := true, size := 2, bytes := 32, zero := some (Value.agg #[Value.int IntKind.i64 0, Value.slice none 0 0]), elem := 0, fields := [(0, 1, false), (1, 1, false)], eqs := none } := by kernel_rfl
theorem is28 : isStructT E.P 28 = true := by kernel_rfl
theorem ti30 : tiOf E.P 30 = some { tag := Tag.struct, agg := true, size := 6, bytes := 48, zero := some (Value.agg #[Value.int IntKind.i64 0, Value.int IntKind.i64 0, Value.int IntKind.i64 0, Value.int IntKind.i64 0, Value.int IntKind.i64 0, Value.int IntKind.i64 0]), elem := 0, fields := [(0, 1, false), (1, 1, false), (2, 1, false), (3, 1, false), (4, 1, false), (5, 1, false)], eqs := some [0, 0, 0, 0, 0, 0] } := by kernel_rfl
theorem is30 : isStructT E.P 30 = true := by kernel_rfl
theorem ti33 : tiOf E.P 33 = some { tag := Tag.slice, agg := false, size := 1, bytes := 24, zero := some (Value.slice none 0 0), elem := 3, fields := [], eqs := none } := by kernel_rfl
theorem sl33 : isSliceT E.P 33 = true := by kernel_rfl
theorem ti35 : tiOf E.P 35 = some { tag := Tag.slice, agg := false, size := 1, bytes := 24, zero := some (Value.slice none 0 0), elem := 44, fields := [], eqs := none } := by kernel_rfl
theorem sl35 : isSliceT E.P 35 = true := by kernel_rfl
theorem ti38 : tiOf E.P 38 = some { tag := Tag.slice, agg := false, size := 1, bytes := 24, zero := some (Value.slice none 0 0), elem := 40, fields := [], eqs := none } := by kernel_rfl
theorem sl38 : isSliceT E.P 38 = true := by kernel_rfl
theorem ti40 : tiOf E.P 40 = some { tag := Tag.struct, agg := true, size := 4, bytes := 48, zero := some (Value.agg #[Value.int IntKind.i64 0, Value.int IntKind.i64 0, Value.int IntKind.i64 0, Value.slice none 0 0]), elem := 0, fields := [(0, 1, false), (1, 1, false), (2, 1, false), (3, 1, false)], eqs := none } := by kernel_rfl
theorem is40 : isStructT E.P 40 = true := by kernel_rfl
theorem ti42 : tiOf E.P 42 = some { tag := Tag.struct, agg := true, size := 7, bytes := 72, zero := some (Value.agg #[Value.int IntKind.i64 0, Value.int IntKind.i64 0, Value.int IntKind.i64 0, Value.int IntKind.i64 0, Value.int IntKind.i64 0, Value.int IntKind.i64 0, Value.slice none 0 0]), elem := 0, fields := [(0, 1, false), (1, 1, false), (2, 1, false), (3, 4, true)], eqs := none } := by kernel_rfl
theorem is42 : isStructT E.P 42 = true := by kernel_rfl
theorem ti44 : tiOf E.P 44 = some { tag := Tag.struct, agg := true, size := 2, bytes := 16, zero := some (Value.agg #[Value.int IntKind.i64 0, Value.int IntKind.i64 0]), elem := 0, fields := [(0, 1, false), (1, 1, false)], eqs := some [0, 0] } := by kernel_rfl
theorem is44 : isStructT E.P 44 = true := by kernel_rfl
theorem ti75 : tiOf E.P 75 = some { tag := Tag.slice, agg := false, size := 1, bytes := 24, zero := some (Value.slice none 0 0), elem := 134, fields := [], eqs := none } := by kernel_rfl
theorem sl75 : isSliceT E.P 75 = true := by kernel_rfl
theorem ti77 : tiOf E.P 77 = some { tag := Tag.struct, agg := true, size := 3, bytes := 40, zero := some (Value.agg #[Value.int IntKind.i64 0, Value.slice none 0 0, Value.int IntKind.i64 0]), elem := 0, fields := [(0, 1, false), (1, 1, false), (2, 1, false)], eqs := none } := by kernel_rfl
theorem is77 : isStructT E.P 77 = true := by kernel_rfl
theorem ti79 : tiOf E.P 79 = some { tag := Tag.struct, agg := true, size := 5, bytes := 72, zero := some (Value.agg #[Value.slice none 0 0, Value.int IntKind.i64 0, Value.slice none 0 0, Value.int IntKind.i64 0, Value.int IntKind.i64 0]), elem := 0, fields := [(0, 1, false), (1, 3, true), (4, 1, false)], eqs := none } := by kernel_rfl
theorem is79 : isStructT E.P 79 = true := by kernel_rfl
theorem ti83 : tiOf E.P 83 = some { tag := Tag.slice, agg := false, size := 1, bytes := 24, zero := some (Value.slice none 0 0), elem := 4, fields := [], eqs := none } := by kernel_rfl
theorem sl83 : isSliceT E.P 83 = true := by kernel_rfl
theorem ti87 : tiOf E.P 87 = some { tag := Tag.struct, agg := true, size := 3, bytes := 40, zero := some (Value.agg #[Value.slice none 0 0, Value.int IntKind.i64 0, Value.int IntKind.i64 0]), elem := 0, fields := [(0, 1, false), (1, 1, false), (2, 1, false)], eqs := none } := by kernel_rfl
theorem is87 : isStructT E.P 87 = true := by kernel_rfl
theorem ti92 : tiOf E.P 92 = some { tag := Tag.struct, agg := true, size := 6, bytes := 48, zero := some (Value.agg #[Value.int IntKind.i64 0, Value.int IntKind.i64 0, Value.int IntKind.i64 0, Value.int IntKind.i64 0, Value.int IntKind.i64 0, Value.int IntKind.i64 0]), elem := 0, fields := [(0, 1, false), (1, 1, false), (2, 1, false), (3, 1, false), (4, 1, false), (5, 1, false)], eqs := some [0, 0, 0, 0, 0, 0] } := by kernel_rfl
theorem is92 : isStructT E.P 92 = true := by kernel_rfl
theorem ti113 : tiOf E.P 113 = some { tag := Tag.struct, agg := true, size := 2, bytes := 16, zero := some (Value.agg #[Value.int IntKind.i64 0, Value.int IntKind.i64 0]), elem := 0, fields := [(0, 1, false), (1, 1, false)], eqs := some [0, 0] } := by kernel_rfl
theorem is113 : isStructT E.P 113 = true := by kernel_rfl
theorem ti134 : tiOf E.P 134 = some { tag := Tag.struct, agg := true, size := 3, bytes := 24, zero := some (Value.agg #[Value.int IntKind.i64 0, Value.int IntKind.i64 0, Value.int IntKind.i64 0]), elem := 0, fields := [(0, 1, false), (1, 1, false), (2, 1, false)], eqs := some [0, 0, 0] } := by kernel_rfl
theorem is134 : isStructT E.P 134 = true := by kernel_rfl
theorem ti140 : tiOf E.P 140 = some { tag := Tag.array 6, agg := true, size := 6, bytes := 6, zero := some (Value.agg #[Value.bool false, Value.bool false, Value.bool false, Value.bool false, Value.bool false, Value.bool false]), elem := 4, fields := [], eqs := none } := by kernel_rfl
theorem na140 : isSliceT E.P 140 = false := by kernel_rfl
theorem ar140 : isArrayT E.P 140 = some 6 := by kernel_rfl
theorem ns140 : isStructT E.P 140 = false := by kernel_rfl
theorem plan_3_14 : E.plan 3 14 = [(.no, 0), (.no, 1), (.no, 2), (.no, 3), (.no, 4), (.no, 5), (.no, 6), (.no, 7), (.no, 8), (.no, 9), (.no, 10), (.no, 11), (.no, 12), (.no, 13), (.no, 14), (.no, 15), (.no, 16), (.no, 17), (.no, 18), (.no, 19), (.no, 20), (.no, 21)] := rfl
theorem plan_3_19 : E.plan 3 19 = [(.no, 0), (.no, 1), (.no, 2), (.no, 3), (.no, 4), (.no, 5), (.no, 6), (.no, 7), (.no, 8), (.no, 9), (.no, 10), (.no, 11), (.no, 12), (.no, 13), (.no, 14), (.no, 15), (.no, 16), (.no, 17)] := rfl
theorem plan_3_23 : E.plan 3 23 = [(.frz 13, 0), (.no, 1), (.no, 2), (.no, 3), (.no, 4), (.no, 5), (.no, 6), (.no, 7), (.no, 8), (.no, 9), (.no, 10), (.no, 11), (.no, 13), (.no, 14), (.no, 15), (.no, 16), (.no, 18), (.quiet, 12), (.quiet, 17), (.no, 19), (.no, 20), (.no, 21)] := rfl
theorem plan_3_29 : E.plan 3 29 = [(.no, 0), (.no, 1), (.no, 2), (.no, 3), (.no, 4), (.no, 5), (.no, 6), (.no, 7), (.no, 8), (.no, 9), (.no, 10), (.no, 12), (.no, 13), (.no, 14), (.no, 15), (.quiet, 11), (.no, 16), (.no, 17), (.no, 18), (.no, 19)] := rfl
theorem plan_5_3 : E.plan 5 3 = [(.no, 0), (.no, 1), (.no, 2), (.no, 4), (.soft [9] [7, 8, 9, 18, 19, 22], 3), (.quiet, 5), (.quiet, 6), (.soft [9] [9, 22], 7), (.no, 8)] := rfl
theorem plan_8_6 : E.plan 8 6 = [(.no, 0), (.no, 1), (.no, 2), (.no, 3), (.no, 4), (.no, 5), (.no, 6), (.no, 7), (.no, 8)] := rfl
theorem plan_9_5 : E.plan 9 5 = [(.no, 0), (.no, 1), (.no, 2), (.no, 3), (.no, 4), (.no, 5), (.no, 6), (.no, 7), (.no, 8), (.no, 9), (.no, 10), (.no, 11), (.no, 12), (.no, 13), (.no, 14), (.no, 15), (.no, 16), (.no, 17), (.no, 18), (.no, 19), (.no, 20), (.no, 21)] := rfl
theorem plan_10_13 : E.plan 10 13 = [(.no, 0), (.no, 1), (.no, 2), (.no, 3), (.no, 4), (.no, 5), (.soft [5] [5, 46], 6), (.no, 7), (.no, 8)] := rfl
theorem plan_13_3 : E.plan 13 3 = [(.no, 0), (.no, 1), (.no, 2), (.no, 3), (.no, 4), (.quiet, 5), (.no, 6), (.no, 7)] := rfl
theorem plan_15_7 : E.plan 15 7 = [(.no, 0), (.no, 1), (.soft [7] [7, 27], 2), (.no, 3), (.no, 4)] := rfl
theorem plan_15_9 : E.plan 15 9 = [(.no, 0), (.no, 1), (.no, 2), (.no, 3), (.soft [7, 8] [7, 8, 10, 33, 34, 35], 4), (.soft [8] [8, 10, 34, 35], 5), (.soft [] [10, 35], 6), (.no, 7), (.no, 8)] := rfl
theorem plan_18_17 : E.plan 18 17 = [(.no, 0), (.no, 1), (.no, 2), (.soft [47] [7, 47, 48], 3), (.no, 4), (.no, 5), (.no, 6), (.no, 7)] := rfl
theorem plan_18_18 : E.plan 18 18 = [(.no, 0), (.no, 1), (.no, 2), (.soft [54] [7, 54, 55], 3), (.no, 4), (.no, 5), (.no, 6)] := rfl
theorem plan_18_20 : E.plan 18 20 = [(.no, 0), (.no, 1), (.no, 2), (.quiet, 3), (.quiet, 4), (.no, 5)] := rfl
theorem plan_19_5 : E.plan 19 5 = [(.no, 0), (.no, 1), (.no, 2), (.soft [15] [3, 15, 16], 3), (.soft [15] [3, 15, 16], 4), (.no, 5), (.no, 6), (.no, 7)] := rfl
theorem plan_23_3 : E.plan 23 3 = [(.no, 0), (.no, 1), (.quiet, 2), (.no, 3), (.no, 4)] := rfl
theorem plan_28_9 : E.plan 28 9 = [(.no, 0), (.no, 1), (.no, 2), (.no, 3), (.soft [5] [5, 31], 4), (.no, 5), (.no, 6)] := rfl
theorem plan_28_11 : E.plan 28 11 = [(.no, 0), (.no, 1), (.no, 2), (.no, 3), (.soft [6] [6, 41], 4), (.no, 5), (.no, 6)] := rfl
theorem plan_30_5 : E.plan 30 5 = [(.no, 0), (.no, 1), (.no, 2), (.no, 3), (.no, 4), (.no, 5), (.no, 6), (.quiet, 7), (.soft [19] [3, 19, 20], 8), (.no, 9), (.no, 10), (.no, 11)] := rfl
theorem plan_33_8 : E.plan 33 8 = [(.no, 0), (.no, 1), (.no, 2), (.no, 3), (.no, 4), (.no, 5), (.no, 7), (.no, 8), (.no, 9), (.no, 10), (.no, 11), (.no, 12), (.quiet, 6), (.no, 13), (.no, 14)] := rfl
theorem plan_39_3 : E.plan 39 3 = [(.frz 5, 1), (.no, 2), (.no, 3), (.no, 4), (.no, 6), (.no, 7), (.no, 8), (.no, 9), (.no, 10), (.soft [15, 20] [1, 5, 15, 16, 17, 18, 20, 21, 22, 23, 24], 0), (.soft [20] [1, 5, 20, 21, 22, 23, 24], 5), (.no, 11), (.no, 12), (.no, 13)] := rfl
theorem plan_41_9 : E.plan 41 9 = [(.no, 0), (.no, 1), (.no, 2), (.no, 3), (.no, 4), (.no, 5), (.no, 6), (.no, 7), (.quiet, 8), (.quiet, 9), (.soft [] [9, 32], 10), (.no, 11), (.no, 12)] := rfl
theorem plan_48_2 : E.plan 48 2 = [(.no, 0), (.no, 1), (.no, 2), (.soft [12] [3, 12, 13], 3), (.no, 4), (.no, 5), (.no, 6)] := rfl
theorem plan_50_8 : E.plan 50 8 = [(.no, 0), (.no, 1), (.no, 2), (.no, 3), (.no, 4), (.no, 5), (.no, 6), (.no, 7), (.no, 8), (.no, 9)] := rfl
theorem plan_54_9 : E.plan 54 9 = [(.no, 0), (.no, 1), (.no, 2), (.no, 3), (.no, 4), (.no, 5), (.no, 6), (.no, 8), (.no, 9), (.quiet, 7), (.no, 10), (.no, 11)] := rfl
theorem plan_54_11 : E.plan 54 11 = [(.no, 0), (.no, 1), (.no, 2), (.no, 3), (.no, 4), (.no, 5), (.no, 6), (.no, 8), (.no, 9), (.quiet, 7), (.no, 10), (.no, 11)] := rfl
theorem plan_58_3 : E.plan 58 3 = [(.no, 0), (.no, 1), (.no, 2), (.no, 3), (.no, 4), (.no, 5), (.no, 6), (.no, 7), (.no, 8), (.no, 9)] := rfl
theorem plan_58_5 : E.plan 58 5 = [(.no, 0), (.no, 1), (.no, 2), (.no, 3), (.no, 4), (.no, 5), (.no, 6), (.no, 7), (.no, 8), (.no, 9), (.no, 10), (.no, 11), (.no, 12), (.no, 13), (.no, 14), (.no, 15), (.no, 16), (.no, 17), (.no, 18)] := rfl
theorem plan_58_7 : E.plan 58 7 = [(.no, 0), (.no, 1), (.no, 2), (.no, 3), (.no, 4), (.no, 5), (.no, 6), (.no, 7), (.no, 8), (.no, 9), (.no, 10), (.no, 11), (.no, 12), (.no, 13), (.no, 14), (.no, 15), (.no, 16), (.no, 17), (.no, 18)] := rfl
theorem plan_59_2 : E.plan 59 2 = [(.no, 0), (.no, 1), (.no, 2), (.no, 3), (.no, 4), (.no, 5), (.no, 6), (.no, 7), (.no, 8), (.no, 9), (.no, 10), (.no, 11), (.no, 12)] := rfl
theorem plan_59_3 : E.plan 59 3 = [(.no, 0), (.no, 1), (.no, 2), (.no, 3), (.no, 4), (.no, 5), (.no, 6), (.no, 7), (.no, 8), (.no, 9)] := rfl
theorem plan_59_4 : E.plan 59 4 = [(.no, 0), (.no, 1), (.no, 2), (.no, 3), (.no, 4), (.no, 5), (.no, 6), (.no, 7), (.no, 8), (.no, 9), (.no, 10), (.no, 11), (.no, 12), (.no, 13), (.no, 14)] := rfl
theorem plan_63_1 : E.plan 63 1 = [(.no, 0), (.no, 2), (.quiet, 1), (.no, 3), (.no, 4), (.no, 5), (.no, 6)] := rfl
theorem plan_64_1 : E.plan 64 1 = [(.no, 0), (.no, 2), (.quiet, 1), (.no, 3), (.no, 4), (.no, 5), (.no, 6)] := rfl
theorem plan_70_5 : E.plan 70 5 = [(.no, 0), (.no, 1), (.no, 2), (.quiet, 3), (.soft [20] [3, 20, 21], 4), (.no, 5), (.no, 6), (.no, 7)] := rfl
theorem plan_77_4 : E.plan 77 4 = [(.no, 0), (.no, 1), (.no, 2), (.no, 3), (.no, 4), (.no, 5), (.no, 6), (.no, 7), (.no, 8), (.no, 9), (.no, 10), (.no, 11), (.no, 12), (.no, 13), (.no, 14), (.no, 15), (.no, 16), (.no, 17), (.no, 18), (.no, 19), (.no, 20), (.no, 21), (.no, 22)] := rfl
theorem plan_92_9 : E.plan 92 9 = [(.no, 0), (.no, 1), (.no, 2), (.no, 3), (.no, 4), (.no, 5), (.no, 6), (.no, 8), (.no, 9), (.quiet, 7), (.no, 10), (.no, 11)] := rfl
theorem plan_92_11 : E.plan 92 11 = [(.no, 0), (.no, 1), (.no, 2), (.no, 3), (.no, 4), (.no, 5), (.no, 6), (.no, 8), (.no, 9), (.quiet, 7), (.no, 10), (.no, 11)] := rfl
theorem plan_94_10 : E.plan 94 10 = [(.no, 0), (.no, 1), (.no, 2), (.no, 3), (.no, 4), (.no, 5), (.no, 6)] := rfl
theorem plan_94_13 : E.plan 94 13 = [(.no, 0), (.no, 1), (.no, 2), (.no, 3), (.no, 4), (.no, 5), (.soft [59] [0, 56, 57, 58, 59, 60], 6), (.soft [] [0, 56], 7), (.no, 8), (.no, 9), (.no, 10)] := rfl
theorem plan_98_12 : E.plan 98 12 = [(.no, 0), (.no, 1), (.no, 2), (.no, 3), (.no, 4), (.quiet, 5), (.no, 6), (.no, 7), (.no, 8), (.no, 9), (.no, 10), (.no, 11), (.no, 12), (.no, 13), (.no, 14), (.no, 15), (.no, 16), (.no, 17), (.no, 18), (.no, 19)] := rfl
theorem plan_105_13 : E.plan 105 13 = [(.no, 0), (.no, 1), (.no, 2), (.no, 3), (.no, 4), (.no, 5), (.no, 6), (.no, 7), (.no, 8), (.no, 9), (.quiet, 10), (.no, 11), (.no, 12), (.no, 13)] := rfl
theorem plan_109_4 : E.plan 109 4 = [(.no, 0), (.no, 1), (.no, 2), (.no, 3), (.no, 4), (.no, 5)] := rfl
theorem keep_3_17 : E.keep 3 17 = [0, 3, 4, 5, 6, 7, 8, 9, 10, 11, 12] := rfl
theorem keep_3_12 : E.keep 3 12 = [0, 3, 4, 5, 6, 7, 8, 9, 10] := rfl
theorem keep_3_9 : E.keep 3 9 = [0, 3, 4, 5, 6, 7, 8, 9] := rfl
theorem keep_6_3 : E.keep 6 3 = [0, 1, 7, 9, 14, 15, 16] := rfl
theorem keep_7_6 : E.keep 7 6 = [1, 3, 4, 5, 10, 11, 12, 18, 19, 20] := rfl
theorem keep_7_3 : E.keep 7 3 = [1, 3, 10, 11, 12] := rfl
theorem keep_8_4 : E.keep 8 4 = [0, 1, 5] := rfl
theorem keep_9_3 : E.keep 9 3 = [0, 1, 6, 7, 9, 10] := rfl
theorem keep_10_4 : E.keep 10 4 = [2, 4, 5, 6] := rfl
theorem keep_11_8 : E.keep 11 8 = [2, 5, 6, 7, 23] := rfl
theorem keep_11_5 : E.keep 11 5 = [2, 5, 23] := rfl
theorem keep_14_3 : E.keep 14 3 = [1, 4, 5, 13, 14, 15] := rfl
theorem keep_16_15 : E.keep 16 15 = [2, 3, 4, 5, 13, 61, 62] := rfl
theorem keep_16_7 : E.keep 16 7 = [2, 3, 4, 5, 13, 41, 42, 43] := rfl
theorem keep_17_3 : E.keep 17 3 = [0, 3, 4] := rfl
theorem keep_18_5 : E.keep 18 5 = [0, 4, 5, 6, 7, 8] := rfl
theorem keep_19_3 : E.keep 19 3 = [0, 2, 3, 4] := rfl
theorem keep_23_7 : E.keep 23 7 = [2, 3, 5, 25, 26] := rfl
theorem keep_30_3 : E.keep 30 3 = [1, 2, 3, 4] := rfl
theorem keep_33_5 : E.keep 33 5 = [2, 3, 4, 5, 9, 25, 26] := rfl
theorem keep_36_3 : E.keep 36 3 = [2, 5, 8, 9, 10] := rfl
theorem keep_37_3 : E.keep 37 3 = [3, 7, 8, 9] := rfl
theorem keep_38_3 : E.keep 38 3 = [1, 2, 3, 4] := rfl
theorem keep_41_7 : E.keep 41 7 = [1, 2, 3, 6, 8, 9, 28, 29] := rfl
theorem keep_42_4 : E.keep 42 4 = [1, 28, 29, 30] := rfl
theorem keep_43_3 : E.keep 43 3 = [1, 5, 8, 9] := rfl
theorem keep_44_3 : E.keep 44 3 = [1, 2, 3, 4, 5, 11, 16, 17, 18] := rfl
theorem keep_45_3 : E.keep 45 3 = [0, 3, 4] := rfl
theorem keep_46_3 : E.keep 46 3 = [0, 3, 4] := rfl
theorem keep_50_6 : E.keep 50 6 = [0, 3, 6, 7, 8] := rfl
theorem keep_70_3 : E.keep 70 3 = [2, 3, 14, 15, 16] := rfl
theorem keep_72_3 : E.keep 72 3 = [1, 2, 7, 12, 13, 14] := rfl
theorem keep_77_2 : E.keep 77 2 = [0, 3] := rfl
theorem keep_82_3 : E.keep 82 3 = [3, 7, 8, 9] := rfl
theorem keep_86_3 : E.keep 86 3 = [1, 2, 3, 4, 11, 14, 15, 16] := rfl
theorem keep_88_2 : E.keep 88 2 = [0, 1, 7, 8] := rfl
theorem keep_90_3 : E.keep 90 3 = [1, 2, 5] := rfl
theorem keep_91_4 : E.keep 91 4 = [1, 3] := rfl
theorem keep_93_2 : E.keep 93 2 = [0, 1, 7, 8] := rfl
theorem keep_95_4 : E.keep 95 4 = [1, 2, 15, 16, 17] := rfl
theorem keep_101_3 : E.keep 101 3 = [0, 2, 3, 4, 11, 15, 16, 17] := rfl
theorem keep_102_2 : E.keep 102 2 = [0, 1, 7, 8] := rfl
theorem keep_107_2 : E.keep 107 2 = [0, 1, 2, 3, 4, 5, 13] := rfl
theorem keep_108_3 : E.keep 108 3 = [0, 1, 2, 3, 4, 11, 12] := rfl
theorem keep_109_2 : E.keep 109 2 = [0, 3, 7, 8] := rfl
theorem keep_112_2 : E.keep 112 2 = [0, 1, 7, 8] := rfl
theorem keep_113_5 : E.keep 113 5 = [1, 5, 15, 16] := rfl
theorem keep_120_2 : E.keep 120 2 = [0, 1, 5] := rfl
theorem keep_121_13 : E.keep 121 13 = [11, 15, 16] := rfl
theorem keep_121_8 : E.keep 121 8 = [0, 1, 2, 3, 4, 11, 12, 13, 14] := rfl
theorem keep_121_3 : E.keep 121 3 = [0, 1, 2, 3, 4, 11, 12] := rfl
theorem keep_124_7 : E.keep 124 7 = [0, 4, 5, 6, 7, 21, 22, 23] := rfl
theorem keep_124_3 : E.keep 124 3 = [0, 4, 5, 6] := rfl
theorem keep_128_15 : E.keep 128 15 = [5, 6, 9] := rfl
theorem keep_128_10 : E.keep 128 10 = [0, 5, 6, 7, 8] := rfl
theorem keep_128_7 : E.keep 128 7 = [0, 5, 6, 7] := rfl
theorem md_3 : E.md 3 = [] := rfl
theorem md_4 : E.md 4 = [] := rfl
theorem md_5 : E.md 5 = [] := rfl
theorem md_6 : E.md 6 = [] := rfl
theorem md_7 : E.md 7 = [] := rfl
theorem md_8 : E.md 8 = [] := rfl
theorem md_9 : E.md 9 = [] := rfl
theorem md_10 : E.md 10 = [] := rfl
theorem md_11 : E.md 11 = [] := rfl
theorem md_12 : E.md 12 = [] := rfl
theorem md_13 : E.md 13 = [] := rfl
theorem md_14 : E.md 14 = [] := rfl
theorem md_15 : E.md 15 = [] := rfl
theorem md_16 : E.md 16 = [] := rfl
theorem md_17 : E.md 17 = [.give] := rfl
theorem md_18 : E.md 18 = [.io] := rfl
theorem md_19 : E.md 19 = [.io] := rfl
theorem md_20 : E.md 20 = [] := rfl
theorem md_21 : E.md 21 = [] := rfl
theorem md_22 : E.md 22 = [] := rfl
theorem md_23 : E.md 23 = [] := rfl
theorem md_24 : E.md 24 = [] := rfl
theorem md_25 : E.md 25 = [] := rfl
theorem md_26 : E.md 26 = [.io, .ro] := rfl
theorem md_27 : E.md 27 = [.io] := rfl
theorem md_28 : E.md 28 = [.io, .ro] := rfl
theorem md_29 : E.md 29 = [.io, .ro] := rfl
theorem md_30 : E.md 30 = [] := rfl
theorem md_31 : E.md 31 = [] := rfl
theorem md_32 : E.md 32 = [] := rfl
theorem md_33 : E.md 33 = [] := rfl
theorem md_34 : E.md 34 = [] := rfl
theorem md_35 : E.md 35 = [] := rfl
theorem md_36 : E.md 36 = [] := rfl
theorem md_37 : E.md 37 = [] := rfl
theorem md_38 : E.md 38 = [] := rfl
theorem md_39 : E.md 39 = [] := rfl
theorem md_40 : E.md 40 = [.io, .ro] := rfl
theorem md_41 : E.md 41 = [] := rfl
theorem md_42 : E.md 42 = [.ro, .give] := rfl
theorem md_43 : E.md 43 = [] := rfl
theorem md_44 : E.md 44 = [] := rfl
theorem md_45 : E.md 45 = [.io] := rfl
theorem md_46 : E.md 46 = [.io] := rfl
theorem md_47 : E.md 47 = [.io] := rfl
theorem md_48 : E.md 48 = [.io] := rfl
theorem md_49 : E.md 49 = [] := rfl
theorem md_50 : E.md 50 = [] := rfl
theorem md_51 : E.md 51 = [] := rfl
theorem md_52 : E.md 52 = [] := rfl
theorem md_53 : E.md 53 = [] := rfl
theorem md_54 : E.md 54 = [] := rfl
theorem md_55 : E.md 55 = [] := rfl
theorem md_56 : E.md 56 = [] := rfl
theorem md_57 : E.md 57 = [] := rfl
theorem md_58 : E.md 58 = [] := rfl
theorem md_59 : E.md 59 = [.io] := rfl
theorem md_60 : E.md 60 = [.io, .ro] := rfl
theorem md_61 : E.md 61 = [.io] := rfl
theorem md_62 : E.md 62 = [] := rfl
theorem md_63 : E.md 63 = [] := rfl
theorem md_64 : E.md 64 = [] := rfl
theorem md_65 : E.md 65 = [] := rfl
theorem md_66 : E.md 66 = [] := rfl
theorem md_67 : E.md 67 = [] := rfl
theorem md_68 : E.md 68 = [] := rfl
theorem md_69 : E.md 69 = [] := rfl
theorem md_70 : E.md 70 = [] := rfl
theorem md_71 : E.md 71 = [] := rfl
theorem md_72 : E.md 72 = [] := rfl
theorem md_73 : E.md 73 = [] := rfl
theorem md_74 : E.md 74 = [] := rfl
theorem md_75 : E.md 75 = [] := rfl
theorem md_76 : E.md 76 = [] := rfl
theorem md_77 : E.md 77 = [] := rfl
theorem md_78 : E.md 78 = [] := rfl
theorem md_79 : E.md 79 = [] := rfl
theorem md_80 : E.md 80 = [] := rfl
theorem md_81 : E.md 81 = [] := rfl
theorem md_82 : E.md 82 = [] := rfl
theorem md_83 : E.md 83 = [] := rfl
theorem md_84 : E.md 84 = [] := rfl
theorem md_85 : E.md 85 = [] := rfl
theorem md_86 : E.md 86 = [] := rfl
theorem md_87 : E.md 87 = [] := rfl
theorem md_88 : E.md 88 = [] := rfl
theorem md_89 : E.md 89 = [] := rfl
theorem md_90 : E.md 90 = [] := rfl
theorem md_91 : E.md 91 = [] := rfl
theorem md_92 : E.md 92 = [] := rfl
theorem md_93 : E.md 93 = [] := rfl
theorem md_94 : E.md 94 = [.io, .ro, .ro, .ro] := rfl
theorem md_95 : E.md 95 = [] := rfl
theorem md_96 : E.md 96 = [] := rfl
theorem md_97 : E.md 97 = [] := rfl
theorem md_98 : E.md 98 = [] := rfl
theorem md_99 : E.md 99 = [] := rfl
theorem md_100 : E.md 100 = [] := rfl
theorem md_101 : E.md 101 = [] := rfl
theorem md_102 : E.md 102 = [] := rfl
theorem md_103 : E.md 103 = [] := rfl
theorem md_104 : E.md 104 = [] := rfl
theorem md_105 : E.md 105 = [] := rfl
theorem md_106 : E.md 106 = [] := rfl
theorem md_107 : E.md 107 = [] := rfl
theorem md_108 : E.md 108 = [] := rfl
theorem md_109 : E.md 109 = [] := rfl
theorem md_110 : E.md 110 = [] := rfl
theorem md_111 : E.md 111 = [] := rfl
theorem md_112 : E.md 112 = [] := rfl
theorem md_113 : E.md 113 = [] := rfl
theorem md_114 : E.md 114 = [.«mut»] := rfl
theorem md_115 : E.md 115 = [.give] := rfl
theorem md_116 : E.md 116 = [] := rfl
theorem md_117 : E.md 117 = [] := rfl
theorem md_118 : E.md 118 = [] := rfl
theorem md_119 : E.md 119 = [] := rfl
theorem md_120 : E.md 120 = [] := rfl
theorem md_121 : E.md 121 = [] := rfl
theorem md_122 : E.md 122 = [] := rfl
theorem md_123 : E.md 123 = [] := rfl
theorem md_124 : E.md 124 = [] := rfl
theorem md_127 : E.md 127 = [] := rfl
theorem md_128 : E.md 128 = [] := rfl
theorem md_129 : E.md 129 = [] := rfl
theorem md_130 : E.md 130 = [] := rfl
theorem md_142 : E.md 142 = [] := rfl
theorem tr_3 : E.tree 3 = false := rfl
theorem tr_4 : E.tree 4 = false := rfl
theorem tr_5 : E.tree 5 = false := rfl
theorem tr_6 : E.tree 6 = false := rfl
theorem tr_7 : E.tree 7 = false := rfl
theorem tr_8 : E.tree 8 = false := rfl
theorem tr_9 : E.tree 9 = false := rfl
theorem tr_10 : E.tree 10 = false := rfl
theorem tr_11 : E.tree 11 = false := rfl
theorem tr_12 : E.tree 12 = false := rfl
theorem tr_13 : E.tree 13 = false := rfl
theorem tr_14 : E.tree 14 = false := rfl
theorem tr_15 : E.tree 15 = false := rfl
theorem tr_16 : E.tree 16 = false := rfl
theorem tr_17 : E.tree 17 = false := rfl
theorem tr_18 : E.tree 18 = false := rfl
theorem tr_19 : E.tree 19 = false := rfl
theorem tr_20 : E.tree 20 = false := rfl
theorem tr_21 : E.tree 21 = false := rfl
theorem tr_22 : E.tree 22 = false := rfl
theorem tr_23 : E.tree 23 = false := rfl
theorem tr_24 : E.tree 24 = false := rfl
theorem tr_25 : E.tree 25 = false := rfl
theorem tr_26 : E.tree 26 = false := rfl
theorem tr_27 : E.tree 27 = false := rfl
theorem tr_28 : E.tree 28 = false := rfl
theorem tr_29 : E.tree 29 = false := rfl
theorem tr_30 : E.tree 30 = true := rfl
theorem tr_31 : E.tree 31 = false := rfl
theorem tr_32 : E.tree 32 = false := rfl
theorem tr_33 : E.tree 33 = false := rfl
theorem tr_34 : E.tree 34 = false := rfl
theorem tr_35 : E.tree 35 = false := rfl
theorem tr_36 : E.tree 36 = false := rfl
theorem tr_37 : E.tree 37 = false := rfl
theorem tr_38 : E.tree 38 = true := rfl
theorem tr_39 : E.tree 39 = false := rfl
theorem tr_40 : E.tree 40 = false := rfl
theorem tr_41 : E.tree 41 = false := rfl
theorem tr_42 : E.tree 42 = false := rfl
theorem tr_43 : E.tree 43 = false := rfl
theorem tr_44 : E.tree 44 = false := rfl
theorem tr_45 : E.tree 45 = false := rfl
theorem tr_46 : E.tree 46 = false := rfl
theorem tr_47 : E.tree 47 = false := rfl
theorem tr_48 : E.tree 48 = false := rfl
theorem tr_49 : E.tree 49 = false := rfl
theorem tr_50 : E.tree 50 = false := rfl
theorem tr_51 : E.tree 51 = false := rfl
theorem tr_52 : E.tree 52 = false := rfl
theorem tr_53 : E.tree 53 = false := rfl
theorem tr_54 : E.tree 54 = false := rfl
theorem tr_55 : E.tree 55 = false := rfl
theorem tr_56 : E.tree 56 = false := rfl
theorem tr_57 : E.tree 57 = false := rfl
theorem tr_58 : E.tree 58 = false := rfl
theorem tr_59 : E.tree 59 = false := rfl
theorem tr_60 : E.tree 60 = false := rfl
theorem tr_61 : E.tree 61 = false := rfl
theorem tr_62 : E.tree 62 = false := rfl
theorem tr_63 : E.tree 63 = false := rfl
theorem tr_64 : E.tree 64 = false := rfl
theorem tr_65 : E.tree 65 = false := rfl
theorem tr_66 : E.tree 66 = false := rfl
theorem tr_67 : E.tree 67 = false := rfl
theorem tr_68 : E.tree 68 = false := rfl
theorem tr_69 : E.tree 69 = false := rfl
theorem tr_70 : E.tree 70 = true := rfl
theorem tr_71 : E.tree 71 = false := rfl
theorem tr_72 : E.tree 72 = false := rfl
theorem tr_73 : E.tree 73 = false := rfl
theorem tr_74 : E.tree 74 = false := rfl
theorem tr_75 : E.tree 75 = false := rfl
theorem tr_76 : E.tree 76 = false := rfl
theorem tr_77 : E.tree 77 = false := rfl
theorem tr_78 : E.tree 78 = false := rfl
theorem tr_79 : E.tree 79 = false := rfl
theorem tr_80 : E.tree 80 = false := rfl
theorem tr_81 : E.tree 81 = false := rfl
theorem tr_82 : E.tree 82 = false := rfl
theorem tr_83 : E.tree 83 = false := rfl
theorem tr_84 : E.tree 84 = false := rfl
theorem tr_85 : E.tree 85 = false := rfl
theorem tr_86 : E.tree 86 = false := rfl
theorem tr_87 : E.tree 87 = false := rfl
theorem tr_88 : E.tree 88 = false := rfl
theorem tr_89 : E.tree 89 = false := rfl
theorem tr_90 : E.tree 90 = false := rfl
theorem tr_91 : E.tree 91 = false := rfl
theorem tr_92 : E.tree 92 = false := rfl
theorem tr_93 : E.tree 93 = false := rfl
theorem tr_94 : E.tree 94 = false := rfl
theorem tr_95 : E.tree 95 = false := rfl
theorem tr_96 : E.tree 96 = false := rfl
theorem tr_97 : E.tree 97 = false := rfl
theorem tr_98 : E.tree 98 = false := rfl
theorem tr_99 : E.tree 99 = false := rfl
theorem tr_100 : E.tree 100 = false := rfl
theorem tr_101 : E.tree 101 = false := rfl
theorem tr_102 : E.tree 102 = false := rfl
theorem tr_103 : E.tree 103 = false := rfl
theorem tr_104 : E.tree 104 = false := rfl
theorem tr_105 : E.tree 105 = false := rfl
theorem tr_106 : E.tree 106 = false := rfl
theorem tr_107 : E.tree 107 = false := rfl
theorem tr_108 : E.tree 108 = false := rfl
theorem tr_109 : E.tree 109 = false := rfl
theorem tr_110 : E.tree 110 = false := rfl
theorem tr_111 : E.tree 111 = false := rfl
theorem tr_112 : E.tree 112 = false := rfl
theorem tr_113 : E.tree 113 = false := rfl
theorem tr_116 : E.tree 116 = false := rfl
theorem tr_117 : E.tree 117 = false := rfl
theorem tr_118 : E.tree 118 = false := rfl
theorem tr_119 : E.tree 119 = false := rfl
theorem tr_120 : E.tree 120 = false := rfl
theorem tr_121 : E.tree 121 = false := rfl
theorem tr_122 : E.tree 122 = false := rfl
theorem tr_123 : E.tree 123 = false := rfl
theorem tr_124 : E.tree 124 = false := rfl
theorem tr_127 : E.tree 127 = false := rfl
theorem tr_128 : E.tree 128 = false := rfl
theorem tr_129 : E.tree 129 = false := rfl
theorem tr_130 : E.tree 130 = false := rfl
theorem tr_142 : E.tree 142 = false := rfl
theorem MDS : type_of% (And.intro (And.intro (And.intro (And.intro (And.intro (And.intro (And.intro @md_3 (And.intro @md_4 @md_5)) (And.intro (And.intro @md_6 @md_7) (And.intro @md_8 @md_9))) (And.intro (And.intro (And.intro @md_10 @md_11) (And.intro @md_12 @md_13)) (And.intro (And.intro @md_14 @md_15) (And.intro @md_16 @md_17)))) (And.intro (And.intro (And.intro (And.intro @md_18 @md_19) (And.intro @md_20 @md_21)) (And.intro (And.intro @md_22 @md_23) (And.intro @md_24 @md_25))) (And.intro (And.intro (And.intro @md_26 @md_27) (And.intro @md_28 @md_29)) (And.intro (And.intro @md_30 @md_31) (And.intro @md_32 @md_33))))) (And.intro (And.intro (And.intro (And.intro (And.intro @md_34 @md_35) (And.intro @md_36 @md_37)) (And.intro (And.intro @md_38 @md_39) (And.intro @md_40 @md_41))) (And.intro (And.intro (And.intro @md_42 @md_43) (And.intro @md_44 @md_45)) (And.intro (And.intro @md_46 @md_47) (And.intro @md_48 @md_49)))) (And.intro (And.intro (And.intro (And.intro @md_50 @md_51) (And.intro @md_52 @md_53)) (And.intro (And.intro @md_54 @md_55) (And.intro @md_56 @md_57))) (And.intro (And.intro (And.intro @md_58 @md_59) (And.intro @md_60 @md_61)) (And.intro (And.intro @md_62 @md_63) (And.intro @md_64 @md_65)))))) (And.intro (And.intro (And.intro (And.intro (And.intro @md_66 (And.intro @md_67 @md_68)) (And.intro (And.intro @md_69 @md_70) (And.intro @md_71 @md_72))) (And.intro (And.intro (And.intro @md_73 @md_74) (And.intro @md_75 @md_76)) (And.intro (And.intro @md_77 @md_78) (And.intro @md_79 @md_80)))) (And.intro (And.intro (And.intro (And.intro @md_81 @md_82) (And.intro @md_83 @md_84)) (And.intro (And.intro @md_85 @md_86) (And.intro @md_87 @md_88))) (And.intro (And.intro (And.intro @md_89 @md_90) (And.intro @md_91 @md_92)) (And.intro (And.intro @md_93 @md_94) (And.intro @md_95 @md_96))))) (And.intro (And.intro (And.intro (And.intro (And.intro @md_97 @md_98) (And.intro @md_99 @md_100)) (And.intro (And.intro @md_101 @md_102) (And.intro @md_103 @md_104))) (And.intro (And.intro (And.intro @md_105 @md_106) (And.intro @md_107 @md_108)) (And.intro (And.intro @md_109 @md_110) (And.intro @md_111 @md_112)))) (And.intro (And.intro (And.intro (And.intro @md_113 @md_114) (And.intro @md_115 @md_116)) (And.intro (And.intro @md_117 @md_118) (And.intro @md_119 @md_120))) (And.intro (And.intro (And.intro @md_121 @md_122) (And.intro @md_123 @md_124)) (And.intro (And.intro @md_127 @md_128) (And.intro @md_129 @md_130))))))) (And.intro (And.intro (And.intro (And.intro (And.intro (And.intro @md_142 (And.intro @tr_3 @tr_4)) (And.intro (And.intro @tr_5 @tr_6) (And.intro @tr_7 @tr_8))) (And.intro (And.intro (And.intro @tr_9 @tr_10) (And.intro @tr_11 @tr_12)) (And.intro (And.intro @tr_13 @tr_14) (And.intro @tr_15 @tr_16)))) (And.intro (And.intro (And.intro (And.intro @tr_17 @tr_18) (And.intro @tr_19 @tr_20)) (And.intro (And.intro @tr_21 @tr_22) (And.intro @tr_23 @tr_24))) (And.intro (And.intro (And.intro @tr_25 @tr_26) (And.intro @tr_27 @tr_28)) (And.intro (And.intro @tr_29 @tr_30) (And.intro @tr_31 @tr_32))))) (And.intro (And.intro (And.intro (And.intro (And.intro @tr_33 @tr_34) (And.intro @tr_35 @tr_36)) (And.intro (And.intro @tr_37 @tr_38) (And.intro @tr_39 @tr_40))) (And.intro (And.intro (And.intro @tr_41 @tr_42) (And.intro @tr_43 @tr_44)) (And.intro (And.intro @tr_45 @tr_46) (And.intro @tr_47 @tr_48)))) (And.intro (And.intro (And.intro (And.intro @tr_49 @tr_50) (And.intro @tr_51 @tr_52)) (And.intro (And.intro @tr_53 @tr_54) (And.intro @tr_55 @tr_56))) (And.intro (And.intro (And.intro @tr_57 @tr_58) (And.intro @tr_59 @tr_60)) (And.intro (And.intro @tr_61 @tr_62) (And.intro @tr_63 @tr_64)))))) (And.intro (And.intro (And.intro (And.intro (And.intro @tr_65 (And.intro @tr_66 @tr_67)) (And.intro (And.intro @tr_68 @tr_69) (And.intro @tr_70 @tr_71))) (And.intro (And.intro (And.intro @tr_72 @tr_73) (And.intro @tr_74 @tr_75)) (And.intro (And.intro @tr_76 @tr_77) (And.intro @tr_78 @tr_79)))) (And.intro (And.intro (And.intro (And.intro @tr_80 @tr_81) (And.intro @tr_82 @tr_83)) (And.intro (And.intro @tr_84 @tr_85) (And.intro @tr_86 @tr_87))) (And.intro (And.intro (And.intro @tr_88 @tr_89) (And.intro @tr_90 @tr_91)) (And.intro (And.intro @tr_92 @tr_93) (And.intro @tr_94 @tr_95))))) (And.intro (And.intro (And.intro (And.intro (And.intro @tr_96 @tr_97) (And.intro @tr_98 @tr_99)) (And.intro (And.intro @tr_100 @tr_101) (And.intro @tr_102 @tr_103))) (And.intro (And.intro (And.intro @tr_104 @tr_105) (And.intro @tr_106 @tr_107)) (And.intro (And.intro @tr_108 @tr_109) (And.intro @tr_110 @tr_111)))) (And.intro (And.intro (And.intro (And.intro @tr_112 @tr_113) (And.intro @tr_116 @tr_117)) (And.intro (And.intro @tr_118 @tr_119) (And.intro @tr_120 @tr_121))) (And.intro (And.intro (And.intro @tr_122 @tr_123) (And.intro @tr_124 @tr_127)) (And.intro (And.intro @tr_128 @tr_129) (And.intro @tr_130 @tr_142)))))))) := (And.intro (And.intro (And.intro (And.intro (And.intro (And.intro (And.intro @md_3 (And.intro @md_4 @md_5)) (And.intro (And.intro @md_6 @md_7) (And.intro @md_8 @md_9))) (And.intro (And.intro (And.intro @md_10 @md_11) (And.intro @md_12 @md_13)) (And.intro (And.intro @md_14 @md_15) (And.intro @md_16 @md_17)))) (And.intro (And.intro (And.intro (And.intro @md_18 @md_19) (And.intro @md_20 @md_21)) (And.intro (And.intro @md_22 @md_23) (And.intro @md_24 @md_25))) (And.intro (And.intro (And.intro @md_26 @md_27) (And.intro @md_28 @md_29)) (And.intro (And.intro @md_30 @md_31) (And.intro @md_32 @md_33))))) (And.intro (And.intro (And.intro (And.intro (And.intro @md_34 @md_35) (And.intro @md_36 @md_37)) (And.intro (And.intro @md_38 @md_39) (And.intro @md_40 @md_41))) (And.intro (And.intro (And.intro @md_42 @md_43) (And.intro @md_44 @md_45)) (And.intro (And.intro @md_46 @md_47) (And.intro @md_48 @md_49)))) (And.intro (And.intro (And.intro (And.intro @md_50 @md_51) (And.intro @md_52 @md_53)) (And.intro (And.intro @md_54 @md_55) (And.intro @md_56 @md_57))) (And.intro (And.intro (And.intro @md_58 @md_59) (And.intro @md_60 @md_61)) (And.intro (And.intro @md_62 @md_63) (And.intro @md_64 @md_65)))))) (And.intro (And.intro (And.intro (And.intro (And.intro @md_66 (And.intro @md_67 @md_68)) (And.intro (And.intro @md_69 @md_70) (And.intro @md_71 @md_72))) (And.intro (And.intro (And.intro @md_73 @md_74) (And.intro @md_75 @md_76)) (And.intro (And.intro @md_77 @md_78) (And.intro @md_79 @md_80)))) (And.intro (And.intro (And.intro (And.intro @md_81 @md_82) (And.intro @md_83 @md_84)) (And.intro (And.intro @md_85 @md_86) (And.intro @md_87 @md_88))) (And.intro (And.intro (And.intro @md_89 @md_90) (And.intro @md_91 @md_92)) (And.intro (And.intro @md_93 @md_94) (And.intro @md_95 @md_96))))) (And.intro (And.intro (And.intro (And.intro (And.intro @md_97 @md_98) (And.intro @md_99 @md_100)) (And.intro (And.intro @md_101 @md_102) (And.intro @md_103 @md_104))) (And.intro (And.intro (And.intro @md_105 @md_106) (And.intro @md_107 @md_108)) (And.intro (And.intro @md_109 @md_110) (And.intro @md_111 @md_112)))) (And.intro (And.intro (And.intro (And.intro @md_113 @md_114) (And.intro @md_115 @md_116)) (And.intro (And.intro @md_117 @md_118) (And.intro @md_119 @md_120))) (And.intro (And.intro (And.intro @md_121 @md_122) (And.intro @md_123 @md_124)) (And.intro (And.intro @md_127 @md_128) (And.intro @md_129 @md_130))))))) (And.intro (And.intro (And.intro (And.intro (And.intro (And.intro @md_142 (And.intro @tr_3 @tr_4)) (And.intro (And.intro @tr_5 @tr_6) (And.intro @tr_7 @tr_8))) (And.intro (And.intro (And.intro @tr_9 @tr_10) (And.intro @tr_11 @tr_12)) (And.intro (And.intro @tr_13 @tr_14) (And.intro @tr_15 @tr_16)))) (And.intro (And.intro (And.intro (And.intro @tr_17 @tr_18) (And.intro @tr_19 @tr_20)) (And.intro (And.intro @tr_21 @tr_22) (And.intro @tr_23 @tr_24))) (And.intro (And.intro (And.intro @tr_25 @tr_26) (And.intro @tr_27 @tr_28)) (And.intro (And.intro @tr_29 @tr_30) (And.intro @tr_31 @tr_32))))) (And.intro (And.intro (And.intro (And.intro (And.intro @tr_33 @tr_34) (And.intro @tr_35 @tr_36)) (And.intro (And.intro @tr_37 @tr_38) (And.intro @tr_39 @tr_40))) (And.intro (And.intro (And.intro @tr_41 @tr_42) (And.intro @tr_43 @tr_44)) (And.intro (And.intro @tr_45 @tr_46) (And.intro @tr_47 @tr_48)))) (And.intro (And.intro (And.intro (And.intro @tr_49 @tr_50) (And.intro @tr_51 @tr_52)) (And.intro (And.intro @tr_53 @tr_54) (And.intro @tr_55 @tr_56))) (And.intro (And.intro (And.intro @tr_57 @tr_58) (And.intro @tr_59 @tr_60)) (And.intro (And.intro @tr_61 @tr_62) (And.intro @tr_63 @tr_64)))))) (And.intro (And.intro (And.intro (And.intro (And.intro @tr_65 (And.intro @tr_66 @tr_67)) (And.intro (And.intro @tr_68 @tr_69) (And.intro @tr_70 @tr_71))) (And.intro (And.intro (And.intro @tr_72 @tr_73) (And.intro @tr_74 @tr_75)) (And.intro (And.intro @tr_76 @tr_77) (And.intro @tr_78 @tr_79)))) (And.intro (And.intro (And.intro (And.intro @tr_80 @tr_81) (And.intro @tr_82 @tr_83)) (And.intro (And.intro @tr_84 @tr_85) (And.intro @tr_86 @tr_87))) (And.intro (And.intro (And.intro @tr_88 @tr_89) (And.intro @tr_90 @tr_91)) (And.intro (And.intro @tr_92 @tr_93) (And.intro @tr_94 @tr_95))))) (And.intro (And.intro (And.intro (And.intro (And.intro @tr_96 @tr_97) (And.intro @tr_98 @tr_99)) (And.intro (And.intro @tr_100 @tr_101) (And.intro @tr_102 @tr_103))) (And.intro (And.intro (And.intro @tr_104 @tr_105) (And.intro @tr_106 @tr_107)) (And.intro (And.intro @tr_108 @tr_109) (And.intro @tr_110 @tr_111)))) (And.intro (And.intro (And.intro (And.intro @tr_112 @tr_113) (And.intro @tr_116 @tr_117)) (And.intro (And.intro @tr_118 @tr_119) (And.intro @tr_120 @tr_121))) (And.intro (And.intro (And.intro @tr_122 @tr_123) (And.intro @tr_124 @tr_127)) (And.intro (And.intro @tr_128 @tr_129) (And.intro @tr_130 @tr_142))))))))
theorem TIS : type_of% (And.intro (And.intro (And.intro (And.intro (And.intro @ti3 @ti4) (And.intro @ti5 (And.intro @ti22 @sl22))) (And.intro (And.intro @ti24 (And.intro @sl24 @ti25)) (And.intro @sl25 (And.intro @ti26 @sl26)))) (And.intro (And.intro (And.intro @ti28 (And.intro @is28 @ti30)) (And.intro @is30 (And.intro @ti33 @sl33))) (And.intro (And.intro @ti35 (And.intro @sl35 @ti38)) (And.intro @sl38 (And.intro @ti40 @is40))))) (And.intro (And.intro (And.intro (And.intro @ti42 (And.intro @is42 @ti44)) (And.intro @is44 (And.intro @ti75 @sl75))) (And.intro (And.intro @ti77 (And.intro @is77 @ti79)) (And.intro @is79 (And.intro @ti83 @sl83)))) (And.intro (And.intro (And.intro @ti87 (And.intro @is87 @ti92)) (And.intro @is92 (And.intro @ti113 @is113))) (And.intro (And.intro @ti134 (And.intro @is134 @ti140)) (And.intro @na140 (And.intro @ar140 @ns140)))))) := (And.intro (And.intro (And.intro (And.intro (And.intro @ti3 @ti4) (And.intro @ti5 (And.intro @ti22 @sl22))) (And.intro (And.intro @ti24 (And.intro @sl24 @ti25)) (And.intro @sl25 (And.intro @ti26 @sl26)))) (And.intro (And.intro (And.intro @ti28 (And.intro @is28 @ti30)) (And.intro @is30 (And.intro @ti33 @sl33))) (And.intro (And.intro @ti35 (And.intro @sl35 @ti38)) (And.intro @sl38 (And.intro @ti40 @is40))))) (And.intro (And.intro (And.intro (And.intro @ti42 (And.intro @is42 @ti44)) (And.intro @is44 (And.intro @ti75 @sl75))) (And.intro (And.intro @ti77 (And.intro @is77 @ti79)) (And.intro @is79 (And.intro @ti83 @sl83)))) (And.intro (And.intro (And.intro @ti87 (And.intro @is87 @ti92)) (And.intro @is92 (And.intro @ti113 @is113))) (And.intro (And.intro @ti134 (And.intro @is134 @ti140)) (And.intro @na140 (And.intro @ar140 @ns140))))))
end Go.Proofs.YtokjpncehggojaaGreat.Flat
