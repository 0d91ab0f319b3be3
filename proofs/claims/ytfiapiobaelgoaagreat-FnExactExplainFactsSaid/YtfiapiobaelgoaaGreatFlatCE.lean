/-
The program's functions, and how they are reckoned with: tables.
-/
import Derived.Test.YtfiapiobaelgoaaGreatFlatM5
import Derived.Test.YtfiapiobaelgoaaGreatFlatM4
import Derived.Test.YtfiapiobaelgoaaGreatProg
import Derived.KernelRfl
set_option linter.unusedVariables false
set_option linter.unusedSimpArgs false
namespace Go.Proofs.YtfiapiobaelgoaaGreat.Flat
def keepT : Nat → Nat → List Nat
  | 8, 10 => [0, 1, 6, 7, 9, 11, 12]
  | 8, 7 => [0, 1, 6, 7, 9, 11]
  | 8, 3 => [0, 1, 6, 7, 9, 10]
  | 9, 3 => [0, 3, 4]
  | 10, 3 => [0, 3, 4]
  | 13, 9 => [0, 1, 6, 7, 9, 11, 12]
  | 13, 7 => [0, 1, 6, 7, 9]
  | 13, 3 => [0, 1, 6, 7, 9, 16, 17]
  | 14, 4 => [0, 1, 5]
  | 15, 4 => [0, 1, 5]
  | 16, 4 => [0, 1, 5]
  | 18, 2 => [0, 1, 5]
  | 19, 2 => [0, 1, 5]
  | 21, 2 => [0, 1, 5]
  | 22, 2 => [0, 1, 5]
  | 23, 3 => [0, 1, 6, 7, 9, 10]
  | 24, 3 => [0, 1, 7, 9, 14, 15, 16]
  | 25, 5 => [0, 1, 5]
  | 26, 3 => [0, 1, 5, 6]
  | 30, 3 => [0, 3, 4]
  | 31, 3 => [1, 5, 9, 10, 11]
  | 35, 4 => [0, 1, 5]
  | 36, 2 => [0, 1, 5]
  | 42, 5 => [6, 9, 10]
  | 43, 3 => [0, 1, 5, 6]
  | 46, 3 => [1, 5, 9, 10, 11]
  | 48, 2 => [0, 1, 5]
  | 57, 2 => [1, 3]
  | 58, 2 => [0, 1, 5]
  | 62, 3 => [2, 5, 8, 9, 10]
  | 65, 3 => [1, 2, 5]
  | 66, 4 => [1, 3]
  | 68, 3 => [3, 7, 8, 9]
  | 72, 3 => [1, 2, 3, 4, 11, 14, 15, 16]
  | 73, 5 => [0, 1, 5]
  | 78, 3 => [0, 3, 4]
  | 85, 2 => [0, 1, 7, 8]
  | 86, 4 => [0, 1, 5]
  | 89, 2 => [0, 1, 2, 3, 4, 5, 13]
  | 90, 3 => [0, 1, 2, 3, 4, 11, 12]
  | 94, 3 => [0, 2, 3, 4, 11, 15, 16, 17]
  | 95, 2 => [0, 1, 7, 8]
  | 101, 2 => [0, 1, 7, 8]
  | 103, 13 => [11, 15, 16]
  | 103, 8 => [0, 1, 2, 3, 4, 11, 12, 13, 14]
  | 103, 3 => [0, 1, 2, 3, 4, 11, 12]
  | 107, 2 => [0, 1, 7, 8]
  | 108, 5 => [1, 5, 15, 16]
  | 114, 15 => [5, 6, 9]
  | 114, 10 => [0, 5, 6, 7, 8]
  | 114, 7 => [0, 5, 6, 7]
  | 119, 7 => [0, 4, 5, 6, 7, 21, 22, 23]
  | 119, 3 => [0, 4, 5, 6]
  | _, _ => []
def planT : Nat → Nat → List (Qt × Nat)
  | 3, 11 => [(.no, 0), (.no, 2), (.no, 4), (.no, 6), (.quiet, 1), (.quiet, 3), (.quiet, 5), (.no, 7), (.no, 8), (.no, 9)]
  | 3, 15 => [(.no, 0), (.no, 1), (.no, 2), (.no, 3), (.quiet, 4), (.no, 5), (.no, 6)]
  | 3, 22 => [(.no, 0), (.no, 1), (.quiet, 2), (.no, 3), (.no, 4)]
  | 3, 38 => [(.no, 0), (.no, 2), (.no, 4), (.no, 6), (.quiet, 1), (.quiet, 3), (.quiet, 5), (.no, 7), (.no, 8), (.no, 9)]
  | 4, 11 => [(.no, 0), (.no, 2), (.no, 4), (.no, 6), (.quiet, 1), (.quiet, 3), (.quiet, 5), (.no, 7), (.no, 8), (.no, 9)]
  | 4, 15 => [(.no, 0), (.no, 1), (.no, 2), (.no, 3), (.quiet, 4), (.no, 5), (.no, 6)]
  | 4, 22 => [(.no, 0), (.no, 1), (.quiet, 2), (.no, 3), (.no, 4)]
  | 4, 38 => [(.no, 0), (.no, 2), (.no, 4), (.no, 6), (.quiet, 1), (.quiet, 3), (.quiet, 5), (.no, 7), (.no, 8), (.no, 9)]
  | 14, 6 => [(.no, 0), (.no, 1), (.no, 2), (.no, 3), (.no, 4), (.no, 5), (.no, 6), (.no, 7), (.no, 8)]
  | 15, 6 => [(.no, 0), (.no, 1), (.no, 2), (.no, 3), (.no, 4), (.no, 5), (.no, 6), (.no, 7), (.no, 8), (.no, 9)]
  | 16, 6 => [(.no, 0), (.no, 1), (.no, 2), (.no, 3), (.no, 4), (.no, 5), (.no, 6), (.no, 7), (.no, 8), (.no, 9)]
  | 23, 5 => [(.no, 0), (.no, 1), (.no, 2), (.no, 3), (.no, 4), (.no, 5), (.no, 6), (.no, 7), (.no, 8), (.no, 9), (.no, 10), (.no, 11), (.no, 12), (.no, 13), (.no, 14), (.no, 15), (.no, 16), (.no, 17), (.no, 18), (.no, 19), (.no, 20), (.no, 21)]
  | 27, 1 => [(.no, 0), (.no, 1), (.no, 2), (.no, 4), (.no, 5), (.no, 7), (.no, 8), (.no, 9), (.no, 10), (.quiet, 3), (.quiet, 6), (.no, 11), (.no, 12), (.no, 13)]
  | 32, 1 => [(.no, 0), (.no, 1), (.no, 2), (.no, 4), (.no, 5), (.no, 7), (.no, 8), (.no, 9), (.no, 10), (.quiet, 3), (.quiet, 6), (.no, 11), (.no, 12), (.no, 13)]
  | 35, 6 => [(.no, 0), (.no, 1), (.no, 2), (.no, 3), (.no, 4), (.no, 5), (.no, 6), (.no, 7), (.no, 8), (.no, 9)]
  | 42, 7 => [(.no, 0), (.no, 1), (.no, 2), (.no, 3), (.no, 4), (.no, 5), (.no, 6), (.no, 7), (.no, 8), (.no, 9)]
  | 45, 3 => [(.no, 0), (.no, 1), (.no, 2), (.no, 3), (.no, 4), (.quiet, 5), (.no, 6), (.no, 7)]
  | 50, 3 => [(.no, 0), (.no, 1), (.no, 2), (.no, 3), (.no, 4), (.no, 5), (.no, 6), (.no, 7), (.no, 8), (.no, 9)]
  | 50, 5 => [(.no, 0), (.no, 1), (.no, 2), (.no, 3), (.no, 4), (.no, 5), (.no, 6), (.no, 7), (.no, 8), (.no, 9), (.no, 10), (.no, 11), (.no, 12), (.no, 13), (.no, 14), (.no, 15), (.no, 16), (.no, 17), (.no, 18)]
  | 50, 7 => [(.no, 0), (.no, 1), (.no, 2), (.no, 3), (.no, 4), (.no, 5), (.no, 6), (.no, 7), (.no, 8), (.no, 9), (.no, 10), (.no, 11), (.no, 12), (.no, 13), (.no, 14), (.no, 15), (.no, 16), (.no, 17), (.no, 18)]
  | 54, 9 => [(.no, 0), (.no, 1), (.no, 2), (.no, 3), (.no, 4), (.no, 5), (.no, 6), (.no, 8), (.no, 9), (.quiet, 7), (.no, 10), (.no, 11)]
  | 54, 11 => [(.no, 0), (.no, 1), (.no, 2), (.no, 3), (.no, 4), (.no, 5), (.no, 6), (.no, 8), (.no, 9), (.quiet, 7), (.no, 10), (.no, 11)]
  | 67, 9 => [(.no, 0), (.no, 1), (.no, 2), (.no, 3), (.no, 4), (.no, 5), (.no, 6), (.no, 8), (.no, 9), (.quiet, 7), (.no, 10), (.no, 11)]
  | 67, 11 => [(.no, 0), (.no, 1), (.no, 2), (.no, 3), (.no, 4), (.no, 5), (.no, 6), (.no, 8), (.no, 9), (.quiet, 7), (.no, 10), (.no, 11)]
  | 86, 6 => [(.no, 0), (.no, 1), (.no, 2), (.no, 3), (.no, 4), (.no, 5), (.no, 6), (.no, 7), (.no, 8), (.no, 9)]
  | 87, 13 => [(.no, 0), (.no, 1), (.no, 2), (.no, 3), (.no, 4), (.no, 5), (.no, 6), (.no, 7), (.no, 8), (.no, 9), (.quiet, 10), (.no, 11), (.no, 12), (.no, 13)]
  | 91, 12 => [(.no, 0), (.no, 1), (.no, 2), (.no, 3), (.no, 4), (.quiet, 5), (.no, 6), (.no, 7), (.no, 8), (.no, 9), (.no, 10), (.no, 11), (.no, 12), (.no, 13), (.no, 14), (.no, 15), (.no, 16), (.no, 17), (.no, 18), (.no, 19)]
  | _, _ => []
def okT : List Nat := [3, 4, 5, 6, 7, 8, 9, 10, 11, 12, 13, 14, 15, 16, 17, 18, 19, 20, 21, 22, 23, 24, 25, 26, 27, 28, 29, 30, 31, 32, 33, 34, 35, 36, 37, 38, 39, 40, 41, 42, 43, 44, 45, 46, 47, 48, 49, 50, 51, 52, 53, 54, 55, 56, 57, 58, 59, 60, 61, 62, 63, 64, 65, 66, 67, 68, 69, 70, 71, 72, 73, 74, 75, 76, 77, 78, 79, 80, 81, 82, 83, 84, 85, 86, 87, 88, 89, 90, 91, 92, 93, 94, 95, 96, 97, 98, 99, 100, 101, 102, 103, 104, 105, 106, 107, 108, 111, 112, 113, 114, 115, 116, 117, 118, 119, 122, 123]
def treeT : List Nat := [11, 30, 44, 59, 78]
def mdT : Nat → List Mode
  | 18 => [.«mut», .ro]
  | 19 => [.«mut», .ro]
  | 20 => [.«mut», .ro]
  | 21 => [.«mut», .ro]
  | 36 => [.«mut», .ro]
  | 48 => [.«mut», .ro]
  | 109 => [.«mut»]
  | 110 => [.give]
  | _ => []
noncomputable def E : Env := { P := Go.Proofs.Tryz.prog, md := mdT, keep := keepT, plan := planT, ok := fun f => okT.contains f, tree := fun f => treeT.contains f }
theorem mixed : E.P.follows .mixedOrders = true := by kernel_rfl
/-- One function's check. -/
def good1 (P : Program) (plan : Nat → Nat → List (Qt × Nat)) (md : Nat → List Mode) (f : Nat) : Bool :=
  match P.funcs[f]? with
  | some fn => (match fn.body with | some c => codeOK (plan f) c && codePin (mutSlots 0 (md f)) c | none => true) && !(fn.name == "runtime.NumGoroutine")
  | none => true
theorem good1_ok {E : Env} {l : List Nat} (ho : ∀ f, E.ok f = true → f ∈ l) (h : l.all (good1 E.P E.plan E.md) = true) : Sound E := by
  intro f hf fn c hfn hc
  have h1 := List.all_eq_true.1 h f (ho f hf)
  simp -implicitDefEqProofs only [good1, hfn, hc, Bool.and_eq_true, Bool.not_eq_true', beq_eq_false_iff_ne, ne_eq] at h1
  exact ⟨h1.1.1, h1.2, h1.1.2⟩
theorem sound : Sound E := good1_ok (l := okT) (fun f hf => by simpa [E] using hf) (by kernel_rfl)
/-- Functions of the library that are not entered. -/
def extT : Nat → Option (List AV → List (List AV) → Option (AV × List (List AV)))
  | 109 => some sortExt
  | 110 => some compactExt
  | _ => none
abbrev noExt : Nat → Option (List AV → List (List AV) → Option (AV × List (List AV))) := extT
theorem ext_109 : noExt 109 = some sortExt := rfl
theorem ext_110 : noExt 110 = some compactExt := rfl
abbrev nSort : Nat := 109
abbrev nCompact : Nat := 110
abbrev tBool : Nat := 4
theorem tagBool : tagOf E.P 4 = .bool := by kernel_rfl
theorem one_ne : (1 = 0) = False := by simp
theorem ti3 : tiOf E.P 3 = some { tag := Tag.int IntKind.i64, agg := false, size := 1, bytes := 8, zero := some (Value.int IntKind.i64 0), elem := 0, fields := [], eqs := none } := by kernel_rfl
theorem ti4 : tiOf E.P 4 = some { tag := Tag.bool, agg := false, size := 1, bytes := 1, zero := some (Value.bool false), elem := 0, fields := [], eqs := none } := by kernel_rfl
theorem ti22 : tiOf E.P 22 = some { tag := Tag.slice, agg := false, size := 1, bytes := 24, zero := some (Value.slice none 0 0), elem := 59, fields := [], eqs := none } := by kernel_rfl
theorem sl22 : isSliceT E.P 22 = true := by kernel_rfl
theorem ti23 : tiOf E.P 23 = some { tag := Tag.slice, agg := false, size := 1, bytes := 24, zero := some (Value.slice none 0 0), elem := 63, fields := [], eqs := none } := by kernel_rfl
theorem sl23 : isSliceT E.P 23 = true := by kernel_rfl
theorem ti24 : tiOf E.P 24 = some { tag := Tag.slice, agg := false, size := 1, bytes := 24, zero := some (Value.slice none 0 0), elem := 81, fields := [], eqs := none } := by kernel_rfl
theorem sl24 : isSliceT E.P 24 = true := by kernel_rfl
theorem ti26 : tiOf E.P 26 = some { tag := Tag.struct, agg := true, size := 2, bytes := 32, zero := some (Value.agg #[Value.int IntKind.i64 0, Value.slice none 0 0]), elem := 0, fields := [(0, 1, false), (1, 1, false)], eqs := none } := by kernel_rfl
theorem is26 : isStructT E.P 26 = true := by kernel_rfl
theorem ti28 : tiOf E.P 28 = some { tag := Tag.struct, agg := true, size := 6, bytes := 48, zero := some (Value.agg #[Value.int IntKind.i64 0, Value.int IntKind.i64 0, Value.int IntKind.i64 0, Value.int IntKind.i64 0, Value.int IntKind.i64 0, Value.int IntKind.i64 0]), elem := 0, fields := [(0, 1, false), (1, 1, false), (2, 1, false), (3, 1, false), (4, 1, false), (5, 1, false)], eqs := some [0, 0, 0, 0, 0, 0] } := by kernel_rfl
theorem is28 : isStructT E.P 28 = true := by kernel_rfl
theorem ti32 : tiOf E.P 32 = some { tag := Tag.slice, agg := false, size := 1, bytes := 24, zero := some (Value.slice none 0 0), elem := 3, fields := [], eqs := none } := by kernel_rfl
theorem sl32 : isSliceT E.P 32 = true := by kernel_rfl
theorem ti34 : tiOf E.P 34 = some { tag := Tag.slice, agg := false, size := 1, bytes := 24, zero := some (Value.slice none 0 0), elem := 57, fields := [], eqs := none } := by kernel_rfl
theorem sl34 : isSliceT E.P 34 = true := by kernel_rfl
theorem ti36 : tiOf E.P 36 = some { tag := Tag.slice, agg := false, size := 1, bytes := 24, zero := some (Value.slice none 0 0), elem := 61, fields := [], eqs := none } := by kernel_rfl
theorem sl36 : isSliceT E.P 36 = true := by kernel_rfl
theorem ti38 : tiOf E.P 38 = some { tag := Tag.slice, agg := false, size := 1, bytes := 24, zero := some (Value.slice none 0 0), elem := 74, fields := [], eqs := none } := by kernel_rfl
theorem sl38 : isSliceT E.P 38 = true := by kernel_rfl
theorem ti40 : tiOf E.P 40 = some { tag := Tag.struct, agg := true, size := 2, bytes := 32, zero := some (Value.agg #[Value.int IntKind.i64 0, Value.slice none 0 0]), elem := 0, fields := [(0, 1, false), (1, 1, false)], eqs := none } := by kernel_rfl
theorem is40 : isStructT E.P 40 = true := by kernel_rfl
theorem ti42 : tiOf E.P 42 = some { tag := Tag.struct, agg := true, size := 6, bytes := 48, zero := some (Value.agg #[Value.int IntKind.i64 0, Value.int IntKind.i64 0, Value.int IntKind.i64 0, Value.int IntKind.i64 0, Value.int IntKind.i64 0, Value.int IntKind.i64 0]), elem := 0, fields := [(0, 1, false), (1, 1, false), (2, 1, false), (3, 1, false), (4, 1, false), (5, 1, false)], eqs := some [0, 0, 0, 0, 0, 0] } := by kernel_rfl
theorem is42 : isStructT E.P 42 = true := by kernel_rfl
theorem ti57 : tiOf E.P 57 = some { tag := Tag.struct, agg := true, size := 2, bytes := 16, zero := some (Value.agg #[Value.int IntKind.i64 0, Value.int IntKind.i64 0]), elem := 0, fields := [(0, 1, false), (1, 1, false)], eqs := some [0, 0] } := by kernel_rfl
theorem is57 : isStructT E.P 57 = true := by kernel_rfl
theorem ti59 : tiOf E.P 59 = some { tag := Tag.struct, agg := true, size := 2, bytes := 16, zero := some (Value.agg #[Value.int IntKind.i64 0, Value.int IntKind.i64 0]), elem := 0, fields := [(0, 1, false), (1, 1, false)], eqs := some [0, 0] } := by kernel_rfl
theorem is59 : isStructT E.P 59 = true := by kernel_rfl
theorem ti61 : tiOf E.P 61 = some { tag := Tag.struct, agg := true, size := 6, bytes := 48, zero := some (Value.agg #[Value.int IntKind.i64 0, Value.int IntKind.i64 0, Value.int IntKind.i64 0, Value.int IntKind.i64 0, Value.int IntKind.i64 0, Value.int IntKind.i64 0]), elem := 0, fields := [(0, 1, false), (1, 1, false), (2, 1, false), (3, 1, false), (4, 1, false), (5, 1, false)], eqs := some [0, 0, 0, 0, 0, 0] } := by kernel_rfl
theorem is61 : isStructT E.P 61 = true := by kernel_rfl
theorem ti63 : tiOf E.P 63 = some { tag := Tag.struct, agg := true, size := 6, bytes := 48, zero := some (Value.agg #[Value.int IntKind.i64 0, Value.int IntKind.i64 0, Value.int IntKind.i64 0, Value.int IntKind.i64 0, Value.int IntKind.i64 0, Value.int IntKind.i64 0]), elem := 0, fields := [(0, 1, false), (1, 1, false), (2, 1, false), (3, 1, false), (4, 1, false), (5, 1, false)], eqs := some [0, 0, 0, 0, 0, 0] } := by kernel_rfl
theorem is63 : isStructT E.P 63 = true := by kernel_rfl
theorem ti70 : tiOf E.P 70 = some { tag := Tag.slice, agg := false, size := 1, bytes := 24, zero := some (Value.slice none 0 0), elem := 72, fields := [], eqs := none } := by kernel_rfl
theorem sl70 : isSliceT E.P 70 = true := by kernel_rfl
theorem ti72 : tiOf E.P 72 = some { tag := Tag.struct, agg := true, size := 4, bytes := 48, zero := some (Value.agg #[Value.int IntKind.i64 0, Value.int IntKind.i64 0, Value.int IntKind.i64 0, Value.slice none 0 0]), elem := 0, fields := [(0, 1, false), (1, 1, false), (2, 1, false), (3, 1, false)], eqs := none } := by kernel_rfl
theorem is72 : isStructT E.P 72 = true := by kernel_rfl
theorem ti74 : tiOf E.P 74 = some { tag := Tag.struct, agg := true, size := 7, bytes := 72, zero := some (Value.agg #[Value.int IntKind.i64 0, Value.int IntKind.i64 0, Value.int IntKind.i64 0, Value.int IntKind.i64 0, Value.int IntKind.i64 0, Value.int IntKind.i64 0, Value.slice none 0 0]), elem := 0, fields := [(0, 1, false), (1, 1, false), (2, 1, false), (3, 4, true)], eqs := none } := by kernel_rfl
theorem is74 : isStructT E.P 74 = true := by kernel_rfl
theorem ti77 : tiOf E.P 77 = some { tag := Tag.slice, agg := false, size := 1, bytes := 24, zero := some (Value.slice none 0 0), elem := 79, fields := [], eqs := none } := by kernel_rfl
theorem sl77 : isSliceT E.P 77 = true := by kernel_rfl
theorem ti79 : tiOf E.P 79 = some { tag := Tag.struct, agg := true, size := 4, bytes := 48, zero := some (Value.agg #[Value.int IntKind.i64 0, Value.int IntKind.i64 0, Value.int IntKind.i64 0, Value.slice none 0 0]), elem := 0, fields := [(0, 1, false), (1, 1, false), (2, 1, false), (3, 1, false)], eqs := none } := by kernel_rfl
theorem is79 : isStructT E.P 79 = true := by kernel_rfl
theorem ti81 : tiOf E.P 81 = some { tag := Tag.struct, agg := true, size := 7, bytes := 72, zero := some (Value.agg #[Value.int IntKind.i64 0, Value.int IntKind.i64 0, Value.int IntKind.i64 0, Value.int IntKind.i64 0, Value.int IntKind.i64 0, Value.int IntKind.i64 0, Value.slice none 0 0]), elem := 0, fields := [(0, 1, false), (1, 1, false), (2, 1, false), (3, 4, true)], eqs := none } := by kernel_rfl
theorem is81 : isStructT E.P 81 = true := by kernel_rfl
theorem ti121 : tiOf E.P 121 = some { tag := Tag.slice, agg := false, size := 1, bytes := 24, zero := some (Value.slice none 0 0), elem := 4, fields := [], eqs := none } := by kernel_rfl
theorem sl121 : isSliceT E.P 121 = true := by kernel_rfl
theorem ti122 : tiOf E.P 122 = some { tag := Tag.array 6, agg := true, size := 6, bytes := 6, zero := some (Value.agg #[Value.bool false, Value.bool false, Value.bool false, Value.bool false, Value.bool false, Value.bool false]), elem := 4, fields := [], eqs := none } := by kernel_rfl
theorem na122 : isSliceT E.P 122 = false := by kernel_rfl
theorem ar122 : isArrayT E.P 122 = some 6 := by kernel_rfl
theorem ns122 : isStructT E.P 122 = false := by kernel_rfl
theorem plan_3_11 : E.plan 3 11 = [(.no, 0), (.no, 2), (.no, 4), (.no, 6), (.quiet, 1), (.quiet, 3), (.quiet, 5), (.no, 7), (.no, 8), (.no, 9)] := rfl
theorem plan_3_15 : E.plan 3 15 = [(.no, 0), (.no, 1), (.no, 2), (.no, 3), (.quiet, 4), (.no, 5), (.no, 6)] := rfl
theorem plan_3_22 : E.plan 3 22 = [(.no, 0), (.no, 1), (.quiet, 2), (.no, 3), (.no, 4)] := rfl
theorem plan_3_38 : E.plan 3 38 = [(.no, 0), (.no, 2), (.no, 4), (.no, 6), (.quiet, 1), (.quiet, 3), (.quiet, 5), (.no, 7), (.no, 8), (.no, 9)] := rfl
theorem plan_4_11 : E.plan 4 11 = [(.no, 0), (.no, 2), (.no, 4), (.no, 6), (.quiet, 1), (.quiet, 3), (.quiet, 5), (.no, 7), (.no, 8), (.no, 9)] := rfl
theorem plan_4_15 : E.plan 4 15 = [(.no, 0), (.no, 1), (.no, 2), (.no, 3), (.quiet, 4), (.no, 5), (.no, 6)] := rfl
theorem plan_4_22 : E.plan 4 22 = [(.no, 0), (.no, 1), (.quiet, 2), (.no, 3), (.no, 4)] := rfl
theorem plan_4_38 : E.plan 4 38 = [(.no, 0), (.no, 2), (.no, 4), (.no, 6), (.quiet, 1), (.quiet, 3), (.quiet, 5), (.no, 7), (.no, 8), (.no, 9)] := rfl
theorem plan_14_6 : E.plan 14 6 = [(.no, 0), (.no, 1), (.no, 2), (.no, 3), (.no, 4), (.no, 5), (.no, 6), (.no, 7), (.no, 8)] := rfl
theorem plan_15_6 : E.plan 15 6 = [(.no, 0), (.no, 1), (.no, 2), (.no, 3), (.no, 4), (.no, 5), (.no, 6), (.no, 7), (.no, 8), (.no, 9)] := rfl
theorem plan_16_6 : E.plan 16 6 = [(.no, 0), (.no, 1), (.no, 2), (.no, 3), (.no, 4), (.no, 5), (.no, 6), (.no, 7), (.no, 8), (.no, 9)] := rfl
theorem plan_23_5 : E.plan 23 5 = [(.no, 0), (.no, 1), (.no, 2), (.no, 3), (.no, 4), (.no, 5), (.no, 6), (.no, 7), (.no, 8), (.no, 9), (.no, 10), (.no, 11), (.no, 12), (.no, 13), (.no, 14), (.no, 15), (.no, 16), (.no, 17), (.no, 18), (.no, 19), (.no, 20), (.no, 21)] := rfl
theorem plan_27_1 : E.plan 27 1 = [(.no, 0), (.no, 1), (.no, 2), (.no, 4), (.no, 5), (.no, 7), (.no, 8), (.no, 9), (.no, 10), (.quiet, 3), (.quiet, 6), (.no, 11), (.no, 12), (.no, 13)] := rfl
theorem plan_32_1 : E.plan 32 1 = [(.no, 0), (.no, 1), (.no, 2), (.no, 4), (.no, 5), (.no, 7), (.no, 8), (.no, 9), (.no, 10), (.quiet, 3), (.quiet, 6), (.no, 11), (.no, 12), (.no, 13)] := rfl
theorem plan_35_6 : E.plan 35 6 = [(.no, 0), (.no, 1), (.no, 2), (.no, 3), (.no, 4), (.no, 5), (.no, 6), (.no, 7), (.no, 8), (.no, 9)] := rfl
theorem plan_42_7 : E.plan 42 7 = [(.no, 0), (.no, 1), (.no, 2), (.no, 3), (.no, 4), (.no, 5), (.no, 6), (.no, 7), (.no, 8), (.no, 9)] := rfl
theorem plan_45_3 : E.plan 45 3 = [(.no, 0), (.no, 1), (.no, 2), (.no, 3), (.no, 4), (.quiet, 5), (.no, 6), (.no, 7)] := rfl
theorem plan_50_3 : E.plan 50 3 = [(.no, 0), (.no, 1), (.no, 2), (.no, 3), (.no, 4), (.no, 5), (.no, 6), (.no, 7), (.no, 8), (.no, 9)] := rfl
theorem plan_50_5 : E.plan 50 5 = [(.no, 0), (.no, 1), (.no, 2), (.no, 3), (.no, 4), (.no, 5), (.no, 6), (.no, 7), (.no, 8), (.no, 9), (.no, 10), (.no, 11), (.no, 12), (.no, 13), (.no, 14), (.no, 15), (.no, 16), (.no, 17), (.no, 18)] := rfl
theorem plan_50_7 : E.plan 50 7 = [(.no, 0), (.no, 1), (.no, 2), (.no, 3), (.no, 4), (.no, 5), (.no, 6), (.no, 7), (.no, 8), (.no, 9), (.no, 10), (.no, 11), (.no, 12), (.no, 13), (.no, 14), (.no, 15), (.no, 16), (.no, 17), (.no, 18)] := rfl
theorem plan_54_9 : E.plan 54 9 = [(.no, 0), (.no, 1), (.no, 2), (.no, 3), (.no, 4), (.no, 5), (.no, 6), (.no, 8), (.no, 9), (.quiet, 7), (.no, 10), (.no, 11)] := rfl
theorem plan_54_11 : E.plan 54 11 = [(.no, 0), (.no, 1), (.no, 2), (.no, 3), (.no, 4), (.no, 5), (.no, 6), (.no, 8), (.no, 9), (.quiet, 7), (.no, 10), (.no, 11)] := rfl
theorem plan_67_9 : E.plan 67 9 = [(.no, 0), (.no, 1), (.no, 2), (.no, 3), (.no, 4), (.no, 5), (.no, 6), (.no, 8), (.no, 9), (.quiet, 7), (.no, 10), (.no, 11)] := rfl
theorem plan_67_11 : E.plan 67 11 = [(.no, 0), (.no, 1), (.no, 2), (.no, 3), (.no, 4), (.no, 5), (.no, 6), (.no, 8), (.no, 9), (.quiet, 7), (.no, 10), (.no, 11)] := rfl
theorem plan_86_6 : E.plan 86 6 = [(.no, 0), (.no, 1), (.no, 2), (.no, 3), (.no, 4), (.no, 5), (.no, 6), (.no, 7), (.no, 8), (.no, 9)] := rfl
theorem plan_87_13 : E.plan 87 13 = [(.no, 0), (.no, 1), (.no, 2), (.no, 3), (.no, 4), (.no, 5), (.no, 6), (.no, 7), (.no, 8), (.no, 9), (.quiet, 10), (.no, 11), (.no, 12), (.no, 13)] := rfl
theorem plan_91_12 : E.plan 91 12 = [(.no, 0), (.no, 1), (.no, 2), (.no, 3), (.no, 4), (.quiet, 5), (.no, 6), (.no, 7), (.no, 8), (.no, 9), (.no, 10), (.no, 11), (.no, 12), (.no, 13), (.no, 14), (.no, 15), (.no, 16), (.no, 17), (.no, 18), (.no, 19)] := rfl
theorem keep_8_10 : E.keep 8 10 = [0, 1, 6, 7, 9, 11, 12] := rfl
theorem keep_8_7 : E.keep 8 7 = [0, 1, 6, 7, 9, 11] := rfl
theorem keep_8_3 : E.keep 8 3 = [0, 1, 6, 7, 9, 10] := rfl
theorem keep_9_3 : E.keep 9 3 = [0, 3, 4] := rfl
theorem keep_10_3 : E.keep 10 3 = [0, 3, 4] := rfl
theorem keep_13_9 : E.keep 13 9 = [0, 1, 6, 7, 9, 11, 12] := rfl
theorem keep_13_7 : E.keep 13 7 = [0, 1, 6, 7, 9] := rfl
theorem keep_13_3 : E.keep 13 3 = [0, 1, 6, 7, 9, 16, 17] := rfl
theorem keep_14_4 : E.keep 14 4 = [0, 1, 5] := rfl
theorem keep_15_4 : E.keep 15 4 = [0, 1, 5] := rfl
theorem keep_16_4 : E.keep 16 4 = [0, 1, 5] := rfl
theorem keep_18_2 : E.keep 18 2 = [0, 1, 5] := rfl
theorem keep_19_2 : E.keep 19 2 = [0, 1, 5] := rfl
theorem keep_21_2 : E.keep 21 2 = [0, 1, 5] := rfl
theorem keep_22_2 : E.keep 22 2 = [0, 1, 5] := rfl
theorem keep_23_3 : E.keep 23 3 = [0, 1, 6, 7, 9, 10] := rfl
theorem keep_24_3 : E.keep 24 3 = [0, 1, 7, 9, 14, 15, 16] := rfl
theorem keep_25_5 : E.keep 25 5 = [0, 1, 5] := rfl
theorem keep_26_3 : E.keep 26 3 = [0, 1, 5, 6] := rfl
theorem keep_30_3 : E.keep 30 3 = [0, 3, 4] := rfl
theorem keep_31_3 : E.keep 31 3 = [1, 5, 9, 10, 11] := rfl
theorem keep_35_4 : E.keep 35 4 = [0, 1, 5] := rfl
theorem keep_36_2 : E.keep 36 2 = [0, 1, 5] := rfl
theorem keep_42_5 : E.keep 42 5 = [6, 9, 10] := rfl
theorem keep_43_3 : E.keep 43 3 = [0, 1, 5, 6] := rfl
theorem keep_46_3 : E.keep 46 3 = [1, 5, 9, 10, 11] := rfl
theorem keep_48_2 : E.keep 48 2 = [0, 1, 5] := rfl
theorem keep_57_2 : E.keep 57 2 = [1, 3] := rfl
theorem keep_58_2 : E.keep 58 2 = [0, 1, 5] := rfl
theorem keep_62_3 : E.keep 62 3 = [2, 5, 8, 9, 10] := rfl
theorem keep_65_3 : E.keep 65 3 = [1, 2, 5] := rfl
theorem keep_66_4 : E.keep 66 4 = [1, 3] := rfl
theorem keep_68_3 : E.keep 68 3 = [3, 7, 8, 9] := rfl
theorem keep_72_3 : E.keep 72 3 = [1, 2, 3, 4, 11, 14, 15, 16] := rfl
theorem keep_73_5 : E.keep 73 5 = [0, 1, 5] := rfl
theorem keep_78_3 : E.keep 78 3 = [0, 3, 4] := rfl
theorem keep_85_2 : E.keep 85 2 = [0, 1, 7, 8] := rfl
theorem keep_86_4 : E.keep 86 4 = [0, 1, 5] := rfl
theorem keep_89_2 : E.keep 89 2 = [0, 1, 2, 3, 4, 5, 13] := rfl
theorem keep_90_3 : E.keep 90 3 = [0, 1, 2, 3, 4, 11, 12] := rfl
theorem keep_94_3 : E.keep 94 3 = [0, 2, 3, 4, 11, 15, 16, 17] := rfl
theorem keep_95_2 : E.keep 95 2 = [0, 1, 7, 8] := rfl
theorem keep_101_2 : E.keep 101 2 = [0, 1, 7, 8] := rfl
theorem keep_103_13 : E.keep 103 13 = [11, 15, 16] := rfl
theorem keep_103_8 : E.keep 103 8 = [0, 1, 2, 3, 4, 11, 12, 13, 14] := rfl
theorem keep_103_3 : E.keep 103 3 = [0, 1, 2, 3, 4, 11, 12] := rfl
theorem keep_107_2 : E.keep 107 2 = [0, 1, 7, 8] := rfl
theorem keep_108_5 : E.keep 108 5 = [1, 5, 15, 16] := rfl
theorem keep_114_15 : E.keep 114 15 = [5, 6, 9] := rfl
theorem keep_114_10 : E.keep 114 10 = [0, 5, 6, 7, 8] := rfl
theorem keep_114_7 : E.keep 114 7 = [0, 5, 6, 7] := rfl
theorem keep_119_7 : E.keep 119 7 = [0, 4, 5, 6, 7, 21, 22, 23] := rfl
theorem keep_119_3 : E.keep 119 3 = [0, 4, 5, 6] := rfl
theorem md_3 : E.md 3 = [] := rfl
theorem md_4 : E.md 4 = [] := rfl
theorem md_5 : E.md 5 = [] := rfl
theorem md_6 : E.md 6 = [] := rfl
theorem md_7 : E.md 7 = [] := rfl
theorem md_8 : E.md 8 = [] := rfl
theorem md_9 : E.md 9 = [] := rfl
theorem md_10 : E.md 10 = [] := rfl
theorem md_11 : E.md 11 = [] := rfl
theorem md_12 : E.md 12 = [] := rfl
theorem md_13 : E.md 13 = [] := rfl
theorem md_14 : E.md 14 = [] := rfl
theorem md_15 : E.md 15 = [] := rfl
theorem md_16 : E.md 16 = [] := rfl
theorem md_17 : E.md 17 = [] := rfl
theorem md_18 : E.md 18 = [.«mut», .ro] := rfl
theorem md_19 : E.md 19 = [.«mut», .ro] := rfl
theorem md_20 : E.md 20 = [.«mut», .ro] := rfl
theorem md_21 : E.md 21 = [.«mut», .ro] := rfl
theorem md_22 : E.md 22 = [] := rfl
theorem md_23 : E.md 23 = [] := rfl
theorem md_24 : E.md 24 = [] := rfl
theorem md_25 : E.md 25 = [] := rfl
theorem md_26 : E.md 26 = [] := rfl
theorem md_27 : E.md 27 = [] := rfl
theorem md_28 : E.md 28 = [] := rfl
theorem md_29 : E.md 29 = [] := rfl
theorem md_30 : E.md 30 = [] := rfl
theorem md_31 : E.md 31 = [] := rfl
theorem md_32 : E.md 32 = [] := rfl
theorem md_33 : E.md 33 = [] := rfl
theorem md_34 : E.md 34 = [] := rfl
theorem md_35 : E.md 35 = [] := rfl
theorem md_36 : E.md 36 = [.«mut», .ro] := rfl
theorem md_37 : E.md 37 = [] := rfl
theorem md_38 : E.md 38 = [] := rfl
theorem md_39 : E.md 39 = [] := rfl
theorem md_40 : E.md 40 = [] := rfl
theorem md_41 : E.md 41 = [] := rfl
theorem md_42 : E.md 42 = [] := rfl
theorem md_43 : E.md 43 = [] := rfl
theorem md_44 : E.md 44 = [] := rfl
theorem md_45 : E.md 45 = [] := rfl
theorem md_46 : E.md 46 = [] := rfl
theorem md_47 : E.md 47 = [] := rfl
theorem md_48 : E.md 48 = [.«mut», .ro] := rfl
theorem md_49 : E.md 49 = [] := rfl
theorem md_50 : E.md 50 = [] := rfl
theorem md_51 : E.md 51 = [] := rfl
theorem md_52 : E.md 52 = [] := rfl
theorem md_53 : E.md 53 = [] := rfl
theorem md_54 : E.md 54 = [] := rfl
theorem md_55 : E.md 55 = [] := rfl
theorem md_56 : E.md 56 = [] := rfl
theorem md_57 : E.md 57 = [] := rfl
theorem md_58 : E.md 58 = [] := rfl
theorem md_59 : E.md 59 = [] := rfl
theorem md_60 : E.md 60 = [] := rfl
theorem md_61 : E.md 61 = [] := rfl
theorem md_62 : E.md 62 = [] := rfl
theorem md_63 : E.md 63 = [] := rfl
theorem md_64 : E.md 64 = [] := rfl
theorem md_65 : E.md 65 = [] := rfl
theorem md_66 : E.md 66 = [] := rfl
theorem md_67 : E.md 67 = [] := rfl
theorem md_68 : E.md 68 = [] := rfl
theorem md_69 : E.md 69 = [] := rfl
theorem md_70 : E.md 70 = [] := rfl
theorem md_71 : E.md 71 = [] := rfl
theorem md_72 : E.md 72 = [] := rfl
theorem md_73 : E.md 73 = [] := rfl
theorem md_74 : E.md 74 = [] := rfl
theorem md_75 : E.md 75 = [] := rfl
theorem md_76 : E.md 76 = [] := rfl
theorem md_77 : E.md 77 = [] := rfl
theorem md_78 : E.md 78 = [] := rfl
theorem md_79 : E.md 79 = [] := rfl
theorem md_80 : E.md 80 = [] := rfl
theorem md_81 : E.md 81 = [] := rfl
theorem md_82 : E.md 82 = [] := rfl
theorem md_83 : E.md 83 = [] := rfl
theorem md_84 : E.md 84 = [] := rfl
theorem md_85 : E.md 85 = [] := rfl
theorem md_86 : E.md 86 = [] := rfl
theorem md_87 : E.md 87 = [] := rfl
theorem md_88 : E.md 88 = [] := rfl
theorem md_89 : E.md 89 = [] := rfl
theorem md_90 : E.md 90 = [] := rfl
theorem md_91 : E.md 91 = [] := rfl
theorem md_92 : E.md 92 = [] := rfl
theorem md_93 : E.md 93 = [] := rfl
theorem md_94 : E.md 94 = [] := rfl
theorem md_95 : E.md 95 = [] := rfl
theorem md_96 : E.md 96 = [] := rfl
theorem md_97 : E.md 97 = [] := rfl
theorem md_98 : E.md 98 = [] := rfl
theorem md_99 : E.md 99 = [] := rfl
theorem md_100 : E.md 100 = [] := rfl
theorem md_101 : E.md 101 = [] := rfl
theorem md_102 : E.md 102 = [] := rfl
theorem md_103 : E.md 103 = [] := rfl
theorem md_104 : E.md 104 = [] := rfl
theorem md_105 : E.md 105 = [] := rfl
theorem md_106 : E.md 106 = [] := rfl
theorem md_107 : E.md 107 = [] := rfl
theorem md_108 : E.md 108 = [] := rfl
theorem md_109 : E.md 109 = [.«mut»] := rfl
theorem md_110 : E.md 110 = [.give] := rfl
theorem md_111 : E.md 111 = [] := rfl
theorem md_112 : E.md 112 = [] := rfl
theorem md_113 : E.md 113 = [] := rfl
theorem md_114 : E.md 114 = [] := rfl
theorem md_115 : E.md 115 = [] := rfl
theorem md_116 : E.md 116 = [] := rfl
theorem md_117 : E.md 117 = [] := rfl
theorem md_118 : E.md 118 = [] := rfl
theorem md_119 : E.md 119 = [] := rfl
theorem md_122 : E.md 122 = [] := rfl
theorem md_123 : E.md 123 = [] := rfl
theorem tr_3 : E.tree 3 = false := rfl
theorem tr_4 : E.tree 4 = false := rfl
theorem tr_5 : E.tree 5 = false := rfl
theorem tr_6 : E.tree 6 = false := rfl
theorem tr_7 : E.tree 7 = false := rfl
theorem tr_8 : E.tree 8 = false := rfl
theorem tr_9 : E.tree 9 = false := rfl
theorem tr_10 : E.tree 10 = false := rfl
theorem tr_11 : E.tree 11 = true := rfl
theorem tr_12 : E.tree 12 = false := rfl
theorem tr_13 : E.tree 13 = false := rfl
theorem tr_14 : E.tree 14 = false := rfl
theorem tr_15 : E.tree 15 = false := rfl
theorem tr_16 : E.tree 16 = false := rfl
theorem tr_17 : E.tree 17 = false := rfl
theorem tr_18 : E.tree 18 = false := rfl
theorem tr_19 : E.tree 19 = false := rfl
theorem tr_20 : E.tree 20 = false := rfl
theorem tr_21 : E.tree 21 = false := rfl
theorem tr_22 : E.tree 22 = false := rfl
theorem tr_23 : E.tree 23 = false := rfl
theorem tr_24 : E.tree 24 = false := rfl
theorem tr_25 : E.tree 25 = false := rfl
theorem tr_26 : E.tree 26 = false := rfl
theorem tr_27 : E.tree 27 = false := rfl
theorem tr_28 : E.tree 28 = false := rfl
theorem tr_29 : E.tree 29 = false := rfl
theorem tr_30 : E.tree 30 = true := rfl
theorem tr_31 : E.tree 31 = false := rfl
theorem tr_32 : E.tree 32 = false := rfl
theorem tr_33 : E.tree 33 = false := rfl
theorem tr_34 : E.tree 34 = false := rfl
theorem tr_35 : E.tree 35 = false := rfl
theorem tr_36 : E.tree 36 = false := rfl
theorem tr_37 : E.tree 37 = false := rfl
theorem tr_38 : E.tree 38 = false := rfl
theorem tr_39 : E.tree 39 = false := rfl
theorem tr_40 : E.tree 40 = false := rfl
theorem tr_41 : E.tree 41 = false := rfl
theorem tr_42 : E.tree 42 = false := rfl
theorem tr_43 : E.tree 43 = false := rfl
theorem tr_44 : E.tree 44 = true := rfl
theorem tr_45 : E.tree 45 = false := rfl
theorem tr_46 : E.tree 46 = false := rfl
theorem tr_47 : E.tree 47 = false := rfl
theorem tr_48 : E.tree 48 = false := rfl
theorem tr_49 : E.tree 49 = false := rfl
theorem tr_50 : E.tree 50 = false := rfl
theorem tr_51 : E.tree 51 = false := rfl
theorem tr_52 : E.tree 52 = false := rfl
theorem tr_53 : E.tree 53 = false := rfl
theorem tr_54 : E.tree 54 = false := rfl
theorem tr_55 : E.tree 55 = false := rfl
theorem tr_56 : E.tree 56 = false := rfl
theorem tr_57 : E.tree 57 = false := rfl
theorem tr_58 : E.tree 58 = false := rfl
theorem tr_59 : E.tree 59 = true := rfl
theorem tr_60 : E.tree 60 = false := rfl
theorem tr_61 : E.tree 61 = false := rfl
theorem tr_62 : E.tree 62 = false := rfl
theorem tr_63 : E.tree 63 = false := rfl
theorem tr_64 : E.tree 64 = false := rfl
theorem tr_65 : E.tree 65 = false := rfl
theorem tr_66 : E.tree 66 = false := rfl
theorem tr_67 : E.tree 67 = false := rfl
theorem tr_68 : E.tree 68 = false := rfl
theorem tr_69 : E.tree 69 = false := rfl
theorem tr_70 : E.tree 70 = false := rfl
theorem tr_71 : E.tree 71 = false := rfl
theorem tr_72 : E.tree 72 = false := rfl
theorem tr_73 : E.tree 73 = false := rfl
theorem tr_74 : E.tree 74 = false := rfl
theorem tr_75 : E.tree 75 = false := rfl
theorem tr_76 : E.tree 76 = false := rfl
theorem tr_77 : E.tree 77 = false := rfl
theorem tr_78 : E.tree 78 = true := rfl
theorem tr_79 : E.tree 79 = false := rfl
theorem tr_80 : E.tree 80 = false := rfl
theorem tr_81 : E.tree 81 = false := rfl
theorem tr_82 : E.tree 82 = false := rfl
theorem tr_83 : E.tree 83 = false := rfl
theorem tr_84 : E.tree 84 = false := rfl
theorem tr_85 : E.tree 85 = false := rfl
theorem tr_86 : E.tree 86 = false := rfl
theorem tr_87 : E.tree 87 = false := rfl
theorem tr_88 : E.tree 88 = false := rfl
theorem tr_89 : E.tree 89 = false := rfl
theorem tr_90 : E.tree 90 = false := rfl
theorem tr_91 : E.tree 91 = false := rfl
theorem tr_92 : E.tree 92 = false := rfl
theorem tr_93 : E.tree 93 = false := rfl
theorem tr_94 : E.tree 94 = false := rfl
theorem tr_95 : E.tree 95 = false := rfl
theorem tr_96 : E.tree 96 = false := rfl
theorem tr_97 : E.tree 97 = false := rfl
theorem tr_98 : E.tree 98 = false := rfl
theorem tr_99 : E.tree 99 = false := rfl
theorem tr_100 : E.tree 100 = false := rfl
theorem tr_101 : E.tree 101 = false := rfl
theorem tr_102 : E.tree 102 = false := rfl
theorem tr_103 : E.tree 103 = false := rfl
theorem tr_104 : E.tree 104 = false := rfl
theorem tr_105 : E.tree 105 = false := rfl
theorem tr_106 : E.tree 106 = false := rfl
theorem tr_107 : E.tree 107 = false := rfl
theorem tr_108 : E.tree 108 = false := rfl
theorem tr_111 : E.tree 111 = false := rfl
theorem tr_112 : E.tree 112 = false := rfl
theorem tr_113 : E.tree 113 = false := rfl
theorem tr_114 : E.tree 114 = false := rfl
theorem tr_115 : E.tree 115 = false := rfl
theorem tr_116 : E.tree 116 = false := rfl
theorem tr_117 : E.tree 117 = false := rfl
theorem tr_118 : E.tree 118 = false := rfl
theorem tr_119 : E.tree 119 = false := rfl
theorem tr_122 : E.tree 122 = false := rfl
theorem tr_123 : E.tree 123 = false := rfl
theorem MDS : type_of% (And.intro (And.intro (And.intro (And.intro (And.intro (And.intro (And.intro @md_3 (And.intro @md_4 @md_5)) (And.intro (And.intro @md_6 @md_7) (And.intro @md_8 @md_9))) (And.intro (And.intro @md_10 (And.intro @md_11 @md_12)) (And.intro (And.intro @md_13 @md_14) (And.intro @md_15 @md_16)))) (And.intro (And.intro (And.intro @md_17 (And.intro @md_18 @md_19)) (And.intro (And.intro @md_20 @md_21) (And.intro @md_22 @md_23))) (And.intro (And.intro (And.intro @md_24 @md_25) (And.intro @md_26 @md_27)) (And.intro (And.intro @md_28 @md_29) (And.intro @md_30 @md_31))))) (And.intro (And.intro (And.intro (And.intro @md_32 (And.intro @md_33 @md_34)) (And.intro (And.intro @md_35 @md_36) (And.intro @md_37 @md_38))) (And.intro (And.intro (And.intro @md_39 @md_40) (And.intro @md_41 @md_42)) (And.intro (And.intro @md_43 @md_44) (And.intro @md_45 @md_46)))) (And.intro (And.intro (And.intro @md_47 (And.intro @md_48 @md_49)) (And.intro (And.intro @md_50 @md_51) (And.intro @md_52 @md_53))) (And.intro (And.intro (And.intro @md_54 @md_55) (And.intro @md_56 @md_57)) (And.intro (And.intro @md_58 @md_59) (And.intro @md_60 @md_61)))))) (And.intro (And.intro (And.intro (And.intro (And.intro @md_62 (And.intro @md_63 @md_64)) (And.intro (And.intro @md_65 @md_66) (And.intro @md_67 @md_68))) (And.intro (And.intro @md_69 (And.intro @md_70 @md_71)) (And.intro (And.intro @md_72 @md_73) (And.intro @md_74 @md_75)))) (And.intro (And.intro (And.intro @md_76 (And.intro @md_77 @md_78)) (And.intro (And.intro @md_79 @md_80) (And.intro @md_81 @md_82))) (And.intro (And.intro (And.intro @md_83 @md_84) (And.intro @md_85 @md_86)) (And.intro (And.intro @md_87 @md_88) (And.intro @md_89 @md_90))))) (And.intro (And.intro (And.intro (And.intro @md_91 (And.intro @md_92 @md_93)) (And.intro (And.intro @md_94 @md_95) (And.intro @md_96 @md_97))) (And.intro (And.intro (And.intro @md_98 @md_99) (And.intro @md_100 @md_101)) (And.intro (And.intro @md_102 @md_103) (And.intro @md_104 @md_105)))) (And.intro (And.intro (And.intro @md_106 (And.intro @md_107 @md_108)) (And.intro (And.intro @md_109 @md_110) (And.intro @md_111 @md_112))) (And.intro (And.intro (And.intro @md_113 @md_114) (And.intro @md_115 @md_116)) (And.intro (And.intro @md_117 @md_118) (And.intro @md_119 @md_122))))))) (And.intro (And.intro (And.intro (And.intro (And.intro (And.intro @md_123 (And.intro @tr_3 @tr_4)) (And.intro (And.intro @tr_5 @tr_6) (And.intro @tr_7 @tr_8))) (And.intro (And.intro @tr_9 (And.intro @tr_10 @tr_11)) (And.intro (And.intro @tr_12 @tr_13) (And.intro @tr_14 @tr_15)))) (And.intro (And.intro (And.intro @tr_16 (And.intro @tr_17 @tr_18)) (And.intro (And.intro @tr_19 @tr_20) (And.intro @tr_21 @tr_22))) (And.intro (And.intro (And.intro @tr_23 @tr_24) (And.intro @tr_25 @tr_26)) (And.intro (And.intro @tr_27 @tr_28) (And.intro @tr_29 @tr_30))))) (And.intro (And.intro (And.intro (And.intro @tr_31 (And.intro @tr_32 @tr_33)) (And.intro (And.intro @tr_34 @tr_35) (And.intro @tr_36 @tr_37))) (And.intro (And.intro (And.intro @tr_38 @tr_39) (And.intro @tr_40 @tr_41)) (And.intro (And.intro @tr_42 @tr_43) (And.intro @tr_44 @tr_45)))) (And.intro (And.intro (And.intro @tr_46 (And.intro @tr_47 @tr_48)) (And.intro (And.intro @tr_49 @tr_50) (And.intro @tr_51 @tr_52))) (And.intro (And.intro (And.intro @tr_53 @tr_54) (And.intro @tr_55 @tr_56)) (And.intro (And.intro @tr_57 @tr_58) (And.intro @tr_59 @tr_60)))))) (And.intro (And.intro (And.intro (And.intro (And.intro @tr_61 (And.intro @tr_62 @tr_63)) (And.intro (And.intro @tr_64 @tr_65) (And.intro @tr_66 @tr_67))) (And.intro (And.intro @tr_68 (And.intro @tr_69 @tr_70)) (And.intro (And.intro @tr_71 @tr_72) (And.intro @tr_73 @tr_74)))) (And.intro (And.intro (And.intro @tr_75 (And.intro @tr_76 @tr_77)) (And.intro (And.intro @tr_78 @tr_79) (And.intro @tr_80 @tr_81))) (And.intro (And.intro (And.intro @tr_82 @tr_83) (And.intro @tr_84 @tr_85)) (And.intro (And.intro @tr_86 @tr_87) (And.intro @tr_88 @tr_89))))) (And.intro (And.intro (And.intro (And.intro @tr_90 (And.intro @tr_91 @tr_92)) (And.intro (And.intro @tr_93 @tr_94) (And.intro @tr_95 @tr_96))) (And.intro (And.intro (And.intro @tr_97 @tr_98) (And.intro @tr_99 @tr_100)) (And.intro (And.intro @tr_101 @tr_102) (And.intro @tr_103 @tr_104)))) (And.intro (And.intro (And.intro @tr_105 (And.intro @tr_106 @tr_107)) (And.intro (And.intro @tr_108 @tr_111) (And.intro @tr_112 @tr_113))) (And.intro (And.intro (And.intro @tr_114 @tr_115) (And.intro @tr_116 @tr_117)) (And.intro (And.intro @tr_118 @tr_119) (And.intro @tr_122 @tr_123)))))))) := (And.intro (And.intro (And.intro (And.intro (And.intro (And.intro (And.intro @md_3 (And.intro @md_4 @md_5)) (And.intro (And.intro @md_6 @md_7) (And.intro @md_8 @md_9))) (And.intro (And.intro @md_10 (And.intro @md_11 @md_12)) (And.intro (And.intro @md_13 @md_14) (And.intro @md_15 @md_16)))) (And.intro (And.intro (And.intro @md_17 (And.intro @md_18 @md_19)) (And.intro (And.intro @md_20 @md_21) (And.intro @md_22 @md_23))) (And.intro (And.intro (And.intro @md_24 @md_25) (And.intro @md_26 @md_27)) (And.intro (And.intro @md_28 @md_29) (And.intro @md_30 @md_31))))) (And.intro (And.intro (And.intro (And.intro @md_32 (And.intro @md_33 @md_34)) (And.intro (And.intro @md_35 @md_36) (And.intro @md_37 @md_38))) (And.intro (And.intro (And.intro @md_39 @md_40) (And.intro @md_41 @md_42)) (And.intro (And.intro @md_43 @md_44) (And.intro @md_45 @md_46)))) (And.intro (And.intro (And.intro @md_47 (And.intro @md_48 @md_49)) (And.intro (And.intro @md_50 @md_51) (And.intro @md_52 @md_53))) (And.intro (And.intro (And.intro @md_54 @md_55) (And.intro @md_56 @md_57)) (And.intro (And.intro @md_58 @md_59) (And.intro @md_60 @md_61)))))) (And.intro (And.intro (And.intro (And.intro (And.intro @md_62 (And.intro @md_63 @md_64)) (And.intro (And.intro @md_65 @md_66) (And.intro @md_67 @md_68))) (And.intro (And.intro @md_69 (And.intro @md_70 @md_71)) (And.intro (And.intro @md_72 @md_73) (And.intro @md_74 @md_75)))) (And.intro (And.intro (And.intro @md_76 (And.intro @md_77 @md_78)) (And.intro (And.intro @md_79 @md_80) (And.intro @md_81 @md_82))) (And.intro (And.intro (And.intro @md_83 @md_84) (And.intro @md_85 @md_86)) (And.intro (And.intro @md_87 @md_88) (And.intro @md_89 @md_90))))) (And.intro (And.intro (And.intro (And.intro @md_91 (And.intro @md_92 @md_93)) (And.intro (And.intro @md_94 @md_95) (And.intro @md_96 @md_97))) (And.intro (And.intro (And.intro @md_98 @md_99) (And.intro @md_100 @md_101)) (And.intro (And.intro @md_102 @md_103) (And.intro @md_104 @md_105)))) (And.intro (And.intro (And.intro @md_106 (And.intro @md_107 @md_108)) (And.intro (And.intro @md_109 @md_110) (And.intro @md_111 @md_112))) (And.intro (And.intro (And.intro @md_113 @md_114) (And.intro @md_115 @md_116)) (And.intro (And.intro @md_117 @md_118) (And.intro @md_119 @md_122))))))) (And.intro (And.intro (And.intro (And.intro (And.intro (And.intro @md_123 (And.intro @tr_3 @tr_4)) (And.intro (And.intro @tr_5 @tr_6) (And.intro @tr_7 @tr_8))) (And.intro (And.intro @tr_9 (And.intro @tr_10 @tr_11)) (And.intro (And.intro @tr_12 @tr_13) (And.intro @tr_14 @tr_15)))) (And.intro (And.intro (And.intro @tr_16 (And.intro @tr_17 @tr_18)) (And.intro (And.intro @tr_19 @tr_20) (And.intro @tr_21 @tr_22))) (And.intro (And.intro (And.intro @tr_23 @tr_24) (And.intro @tr_25 @tr_26)) (And.intro (And.intro @tr_27 @tr_28) (And.intro @tr_29 @tr_30))))) (And.intro (And.intro (And.intro (And.intro @tr_31 (And.intro @tr_32 @tr_33)) (And.intro (And.intro @tr_34 @tr_35) (And.intro @tr_36 @tr_37))) (And.intro (And.intro (And.intro @tr_38 @tr_39) (And.intro @tr_40 @tr_41)) (And.intro (And.intro @tr_42 @tr_43) (And.intro @tr_44 @tr_45)))) (And.intro (And.intro (And.intro @tr_46 (And.intro @tr_47 @tr_48)) (And.intro (And.intro @tr_49 @tr_50) (And.intro @tr_51 @tr_52))) (And.intro (And.intro (And.intro @tr_53 @tr_54) (And.intro @tr_55 @tr_56)) (And.intro (And.intro @tr_57 @tr_58) (And.intro @tr_59 @tr_60)))))) (And.intro (And.intro (And.intro (And.intro (And.intro @tr_61 (And.intro @tr_62 @tr_63)) (And.intro (And.intro @tr_64 @tr_65) (And.intro @tr_66 @tr_67))) (And.intro (And.intro @tr_68 (And.intro @tr_69 @tr_70)) (And.intro (And.intro @tr_71 @tr_72) (And.intro @tr_73 @tr_74)))) (And.intro (And.intro (And.intro @tr_75 (And.intro @tr_76 @tr_77)) (And.intro (And.intro @tr_78 @tr_79) (And.intro @tr_80 @tr_81))) (And.intro (And.intro (And.intro @tr_82 @tr_83) (And.intro @tr_84 @tr_85)) (And.intro (And.intro @tr_86 @tr_87) (And.intro @tr_88 @tr_89))))) (And.intro (And.intro (And.intro (And.intro @tr_90 (And.intro @tr_91 @tr_92)) (And.intro (And.intro @tr_93 @tr_94) (And.intro @tr_95 @tr_96))) (And.intro (And.intro (And.intro @tr_97 @tr_98) (And.intro @tr_99 @tr_100)) (And.intro (And.intro @tr_101 @tr_102) (And.intro @tr_103 @tr_104)))) (And.intro (And.intro (And.intro @tr_105 (And.intro @tr_106 @tr_107)) (And.intro (And.intro @tr_108 @tr_111) (And.intro @tr_112 @tr_113))) (And.intro (And.intro (And.intro @tr_114 @tr_115) (And.intro @tr_116 @tr_117)) (And.intro (And.intro @tr_118 @tr_119) (And.intro @tr_122 @tr_123))))))))
theorem TIS : type_of% (And.intro (And.intro (And.intro (And.intro (And.intro @ti3 (And.intro @ti4 @ti22)) (And.intro @sl22 (And.intro @ti23 @sl23))) (And.intro (And.intro @ti24 (And.intro @sl24 @ti26)) (And.intro @is26 (And.intro @ti28 @is28)))) (And.intro (And.intro (And.intro @ti32 (And.intro @sl32 @ti34)) (And.intro @sl34 (And.intro @ti36 @sl36))) (And.intro (And.intro @ti38 (And.intro @sl38 @ti40)) (And.intro (And.intro @is40 @ti42) (And.intro @is42 @ti57))))) (And.intro (And.intro (And.intro (And.intro @is57 (And.intro @ti59 @is59)) (And.intro @ti61 (And.intro @is61 @ti63))) (And.intro (And.intro @is63 (And.intro @ti70 @sl70)) (And.intro @ti72 (And.intro @is72 @ti74)))) (And.intro (And.intro (And.intro @is74 (And.intro @ti77 @sl77)) (And.intro @ti79 (And.intro @is79 @ti81))) (And.intro (And.intro @is81 (And.intro @ti121 @sl121)) (And.intro (And.intro @ti122 @na122) (And.intro @ar122 @ns122)))))) := (And.intro (And.intro (And.intro (And.intro (And.intro @ti3 (And.intro @ti4 @ti22)) (And.intro @sl22 (And.intro @ti23 @sl23))) (And.intro (And.intro @ti24 (And.intro @sl24 @ti26)) (And.intro @is26 (And.intro @ti28 @is28)))) (And.intro (And.intro (And.intro @ti32 (And.intro @sl32 @ti34)) (And.intro @sl34 (And.intro @ti36 @sl36))) (And.intro (And.intro @ti38 (And.intro @sl38 @ti40)) (And.intro (And.intro @is40 @ti42) (And.intro @is42 @ti57))))) (And.intro (And.intro (And.intro (And.intro @is57 (And.intro @ti59 @is59)) (And.intro @ti61 (And.intro @is61 @ti63))) (And.intro (And.intro @is63 (And.intro @ti70 @sl70)) (And.intro @ti72 (And.intro @is72 @ti74)))) (And.intro (And.intro (And.intro @is74 (And.intro @ti77 @sl77)) (And.intro @ti79 (And.intro @is79 @ti81))) (And.intro (And.intro @is81 (And.intro @ti121 @sl121)) (And.intro (And.intro @ti122 @na122) (And.intro @ar122 @ns122))))))
end Go.Proofs.YtfiapiobaelgoaaGreat.Flat
