/-
The program's functions, and how they are reckoned with: tables.
-/
import Derived.Test.YtbajieiodabdgaaFlatM5
import Derived.Test.YtbajieiodabdgaaProg
import Derived.KernelRfl
set_option linter.unusedVariables false
set_option linter.unusedSimpArgs false
namespace Go.Proofs.Ytbajieiodabdgaa.Flat
def keepT : Nat → Nat → List Nat
  | 14, 3 => [1, 4, 5, 13, 14, 15]
  | 18, 3 => [1, 2, 3, 7, 8]
  | 19, 3 => [1, 2, 7, 12, 13, 14]
  | 20, 4 => [0, 1, 5]
  | 21, 2 => [0, 1, 5]
  | 22, 2 => [0, 1, 5]
  | 24, 7 => [2, 3, 5, 6]
  | 26, 7 => [2, 3, 5, 25, 26]
  | 30, 8 => [1, 7, 9, 10, 11, 12, 13]
  | 30, 4 => [1, 7, 9, 10, 11]
  | 31, 3 => [0, 3, 4]
  | 32, 3 => [0, 3, 4]
  | 34, 3 => [7, 9, 10, 16, 17, 18]
  | 35, 4 => [0, 1, 5]
  | 36, 4 => [0, 1, 5]
  | 37, 4 => [0, 1, 5]
  | 38, 2 => [0, 1, 5]
  | 39, 2 => [0, 1, 5]
  | 41, 2 => [0, 1, 5]
  | 42, 2 => [0, 1, 5]
  | 43, 6 => [1, 3, 4, 5]
  | 43, 3 => [1, 3, 4]
  | 44, 6 => [1, 3, 4, 5, 10, 11, 12, 18, 19, 20]
  | 44, 3 => [1, 3, 10, 11, 12]
  | 45, 4 => [0, 1, 5]
  | 46, 2 => [0, 1, 5]
  | 47, 2 => [0, 1, 5]
  | 48, 8 => [2, 5, 6, 7]
  | 48, 5 => [2, 5, 6]
  | 49, 8 => [2, 5, 6, 7, 23]
  | 49, 5 => [2, 5, 23]
  | 50, 7 => [2, 3, 4, 5, 13, 14]
  | 51, 15 => [2, 3, 4, 5, 13, 61, 62]
  | 51, 7 => [2, 3, 4, 5, 13, 41, 42, 43]
  | 52, 6 => [1, 2, 3, 6, 8, 9, 10]
  | 53, 7 => [1, 2, 3, 6, 8, 9, 28, 29]
  | 57, 5 => [0, 1, 5]
  | 58, 3 => [1, 2, 3, 4]
  | 60, 3 => [0, 3, 4]
  | 61, 3 => [3, 7, 8, 9]
  | 62, 4 => [0, 1, 5]
  | 63, 2 => [0, 1, 5]
  | 64, 2 => [0, 1, 5]
  | 66, 9 => [0, 3, 6]
  | 66, 3 => [0, 3, 5]
  | 68, 4 => [1, 28, 29, 30]
  | 69, 5 => [0, 1, 5]
  | 71, 7 => [1, 5, 7]
  | 71, 3 => [0, 1, 5, 6]
  | 72, 3 => [0, 3, 4]
  | 73, 3 => [0, 1, 5, 6]
  | 75, 3 => [0, 3, 4]
  | 78, 3 => [1, 5, 8, 9]
  | 92, 2 => [1, 3]
  | 93, 5 => [2, 3, 4, 5, 9, 10]
  | 96, 5 => [2, 3, 4, 5, 9, 25, 26]
  | 97, 3 => [1, 2, 3, 4, 5, 11, 12]
  | 98, 3 => [1, 2, 3, 4, 5, 11, 16, 17, 18]
  | 105, 3 => [1, 2, 3, 4]
  | 107, 3 => [2, 3, 14, 15, 16]
  | 109, 4 => [2, 3, 5]
  | 112, 3 => [1, 2, 5]
  | 113, 4 => [1, 3]
  | 115, 3 => [3, 7, 8, 9]
  | 119, 2 => [0, 1, 7, 8]
  | 127, 3 => [2, 5, 8, 9, 10]
  | 128, 11 => [0, 11, 12]
  | 130, 4 => [0, 1, 5]
  | 131, 2 => [0, 1, 5]
  | 132, 2 => [0, 1, 5]
  | 133, 4 => [1, 2, 15, 16, 17]
  | 135, 2 => [1, 2, 3, 7]
  | 145, 2 => [0, 1, 7, 8]
  | 147, 2 => [0, 3, 7, 8]
  | _, _ => []
def planT : Nat → Nat → List (Qt × Nat)
  | 3, 10 => [(.no, 0), (.no, 1), (.quiet, 2), (.no, 3), (.no, 4)]
  | 4, 10 => [(.no, 0), (.no, 1), (.quiet, 2), (.no, 3), (.no, 4)]
  | 5, 8 => [(.no, 0), (.no, 2), (.quiet, 1), (.no, 3), (.no, 4), (.no, 5)]
  | 5, 14 => [(.no, 0), (.no, 1), (.quiet, 2), (.no, 3), (.no, 4)]
  | 5, 16 => [(.no, 0), (.no, 1), (.quiet, 2), (.no, 3), (.no, 4)]
  | 6, 11 => [(.no, 0), (.no, 2), (.no, 4), (.no, 6), (.quiet, 1), (.quiet, 3), (.quiet, 5), (.no, 7), (.no, 8), (.no, 9)]
  | 6, 15 => [(.no, 0), (.no, 1), (.no, 2), (.no, 3), (.quiet, 4), (.no, 5), (.no, 6)]
  | 6, 22 => [(.no, 0), (.no, 1), (.quiet, 2), (.no, 3), (.no, 4)]
  | 6, 38 => [(.no, 0), (.no, 2), (.no, 4), (.no, 6), (.quiet, 1), (.quiet, 3), (.quiet, 5), (.no, 7), (.no, 8), (.no, 9)]
  | 7, 10 => [(.no, 0), (.no, 1), (.quiet, 2), (.no, 3), (.no, 4)]
  | 8, 10 => [(.no, 0), (.no, 1), (.quiet, 2), (.no, 3), (.no, 4)]
  | 9, 8 => [(.no, 0), (.no, 2), (.no, 4), (.no, 5), (.quiet, 1), (.quiet, 3), (.no, 6), (.no, 7)]
  | 9, 14 => [(.no, 0), (.no, 1), (.quiet, 2), (.no, 3), (.no, 4)]
  | 9, 16 => [(.no, 0), (.no, 1), (.quiet, 2), (.no, 3), (.no, 4)]
  | 10, 10 => [(.no, 0), (.no, 1), (.quiet, 2), (.no, 3), (.no, 4)]
  | 12, 3 => [(.no, 1), (.no, 2), (.no, 3), (.no, 4), (.no, 6), (.no, 7), (.no, 8), (.no, 9), (.no, 10), (.soft true [1, 5, 15, 16, 17, 18, 20, 21, 22, 23, 24], 0), (.soft true [1, 5, 20, 21, 22, 23, 24], 5), (.no, 11), (.no, 12), (.no, 13)]
  | 20, 6 => [(.no, 0), (.no, 1), (.no, 2), (.no, 3), (.no, 4), (.no, 5), (.no, 6), (.no, 7), (.no, 8), (.no, 9)]
  | 26, 3 => [(.no, 0), (.no, 1), (.quiet, 2), (.no, 3), (.no, 4)]
  | 30, 10 => [(.no, 0), (.no, 1), (.no, 2), (.no, 3), (.no, 4), (.no, 5), (.no, 6), (.no, 7), (.no, 8), (.no, 9), (.no, 10), (.no, 11), (.no, 12), (.no, 13)]
  | 35, 6 => [(.no, 0), (.no, 1), (.no, 2), (.no, 3), (.no, 4), (.no, 5), (.no, 6), (.no, 7), (.no, 8)]
  | 36, 6 => [(.no, 0), (.no, 1), (.no, 2), (.no, 3), (.no, 4), (.no, 5), (.no, 6), (.no, 7), (.no, 8), (.no, 9)]
  | 37, 6 => [(.no, 0), (.no, 1), (.no, 2), (.no, 3), (.no, 4), (.no, 5), (.no, 6), (.no, 7), (.no, 8), (.no, 9)]
  | 45, 6 => [(.no, 0), (.no, 1), (.no, 2), (.no, 3), (.no, 4), (.no, 5), (.no, 6), (.no, 7), (.no, 8), (.no, 9)]
  | 50, 3 => [(.no, 0), (.no, 1), (.no, 2), (.no, 4), (.no, 5), (.no, 6), (.quiet, 3), (.no, 7), (.no, 8), (.no, 9)]
  | 52, 8 => [(.no, 0), (.no, 1), (.no, 2), (.no, 3), (.no, 4), (.no, 5), (.no, 6), (.no, 7), (.quiet, 8), (.quiet, 9), (.soft false [9, 34], 10), (.no, 11), (.no, 12)]
  | 53, 9 => [(.no, 0), (.no, 1), (.no, 2), (.no, 3), (.no, 4), (.no, 5), (.no, 6), (.no, 7), (.quiet, 8), (.quiet, 9), (.soft false [9, 32], 10), (.no, 11), (.no, 12)]
  | 62, 6 => [(.no, 0), (.no, 1), (.no, 2), (.no, 3), (.no, 4), (.no, 5), (.no, 6), (.no, 7), (.no, 8), (.no, 9)]
  | 66, 5 => [(.no, 0), (.no, 1), (.no, 2), (.no, 3), (.no, 4), (.no, 5)]
  | 93, 8 => [(.no, 0), (.no, 1), (.no, 2), (.no, 3), (.no, 4), (.no, 6), (.no, 7), (.no, 8), (.no, 9), (.no, 10), (.quiet, 5), (.no, 11), (.no, 12)]
  | 96, 8 => [(.no, 0), (.no, 1), (.no, 2), (.no, 3), (.no, 4), (.no, 5), (.no, 7), (.no, 8), (.no, 9), (.no, 10), (.no, 11), (.no, 12), (.quiet, 6), (.no, 13), (.no, 14)]
  | 105, 5 => [(.no, 0), (.no, 1), (.no, 2), (.no, 3), (.no, 4), (.no, 5), (.no, 6), (.quiet, 7), (.soft true [3, 19, 20], 8), (.no, 9), (.no, 10), (.no, 11)]
  | 107, 5 => [(.no, 0), (.no, 1), (.no, 2), (.quiet, 3), (.soft true [3, 20, 21], 4), (.no, 5), (.no, 6), (.no, 7)]
  | 109, 6 => [(.no, 0), (.no, 1), (.no, 2), (.no, 3), (.no, 4), (.no, 5), (.no, 6), (.no, 7), (.no, 8), (.no, 9), (.no, 10), (.no, 11)]
  | 128, 13 => [(.no, 0), (.no, 1), (.no, 2), (.no, 3), (.no, 4), (.no, 5), (.no, 6), (.no, 7), (.no, 8)]
  | 128, 15 => [(.no, 0), (.no, 1), (.no, 2), (.no, 3), (.no, 4), (.no, 5), (.soft true [0, 65, 66, 67, 68, 69], 6), (.soft false [0, 65], 7), (.no, 8), (.no, 9), (.no, 10)]
  | 129, 10 => [(.no, 0), (.no, 1), (.no, 2), (.no, 3), (.no, 4), (.no, 5), (.no, 6)]
  | 129, 13 => [(.no, 0), (.no, 1), (.no, 2), (.no, 3), (.no, 4), (.no, 5), (.soft true [0, 56, 57, 58, 59, 60], 6), (.soft false [0, 56], 7), (.no, 8), (.no, 9), (.no, 10)]
  | 130, 6 => [(.no, 0), (.no, 1), (.no, 2), (.no, 3), (.no, 4), (.no, 5), (.no, 6), (.no, 7), (.no, 8), (.no, 9)]
  | 134, 13 => [(.no, 0), (.no, 1), (.no, 2), (.no, 3), (.no, 4), (.no, 5), (.no, 6), (.no, 7), (.no, 8), (.no, 9), (.quiet, 10), (.no, 11), (.no, 12), (.no, 13)]
  | 135, 4 => [(.no, 0), (.no, 1), (.no, 2), (.no, 3), (.no, 4), (.no, 5)]
  | 136, 12 => [(.no, 0), (.no, 1), (.no, 2), (.no, 3), (.no, 4), (.quiet, 5), (.no, 6), (.no, 7), (.no, 8), (.no, 9), (.no, 10), (.no, 11), (.no, 12), (.no, 13), (.no, 14), (.no, 15), (.no, 16), (.no, 17), (.no, 18), (.no, 19)]
  | 147, 4 => [(.no, 0), (.no, 1), (.no, 2), (.no, 3), (.no, 4), (.no, 5)]
  | _, _ => []
def okT : List Nat := [3, 4, 5, 6, 7, 8, 9, 10, 11, 12, 13, 14, 15, 16, 17, 18, 19, 20, 21, 22, 23, 24, 25, 26, 27, 28, 29, 30, 31, 32, 33, 34, 35, 36, 37, 38, 39, 40, 41, 42, 43, 44, 45, 46, 47, 48, 49, 50, 51, 52, 53, 54, 55, 56, 57, 58, 59, 60, 61, 62, 63, 64, 65, 66, 67, 68, 69, 70, 71, 72, 73, 74, 75, 76, 77, 78, 79, 80, 81, 82, 83, 84, 85, 86, 87, 88, 89, 90, 91, 92, 93, 94, 95, 96, 97, 98, 99, 100, 101, 102, 103, 104, 105, 106, 107, 108, 109, 110, 111, 112, 113, 114, 115, 116, 117, 118, 119, 120, 121, 122, 123, 124, 125, 126, 127, 128, 129, 130, 131, 132, 133, 134, 135, 136, 137, 138, 139, 140, 141, 142, 143, 144, 145, 146, 147, 148, 149, 150, 151, 152, 153, 154, 155, 156, 157]
def treeT : List Nat := [13, 25, 58, 60, 61, 75, 105, 106, 107]
def mdT : Nat → List Mode
  | 16 => [.«mut», .ro]
  | 21 => [.«mut», .ro]
  | 38 => [.«mut», .ro]
  | 39 => [.«mut», .ro]
  | 40 => [.«mut», .ro]
  | 41 => [.«mut», .ro]
  | 46 => [.«mut», .ro]
  | 55 => [.«mut», .ro]
  | 63 => [.«mut», .ro]
  | 66 => [.give, .ro]
  | 68 => [.ro, .give]
  | 102 => [.«mut», .ro]
  | 128 => [.io, .ro, .ro, .ro]
  | 129 => [.io, .ro, .ro, .ro]
  | 131 => [.«mut», .ro]
  | _ => []
noncomputable def E : Env := { P := Go.Proofs.Try.prog, md := mdT, keep := keepT, plan := planT, ok := fun f => okT.contains f, tree := fun f => treeT.contains f }
theorem mixed : E.P.follows .mixedOrders = true := by kernel_rfl
/-- One function's check. -/
def good1 (P : Program) (plan : Nat → Nat → List (Qt × Nat)) (md : Nat → List Mode) (f : Nat) : Bool :=
  match P.funcs[f]? with
  | some fn => (match fn.body with | some c => codeOK (plan f) c && codePin (mutSlots 0 (md f)) c | none => true) && !(fn.name == "runtime.NumGoroutine")
  | none => true
theorem good1_ok {E : Env} {l : List Nat} (ho : ∀ f, E.ok f = true → f ∈ l) (h : l.all (good1 E.P E.plan E.md) = true) : Sound E := by
  intro f hf fn c hfn hc
  have h1 := List.all_eq_true.1 h f (ho f hf)
  simp -implicitDefEqProofs only [good1, hfn, hc, Bool.and_eq_true, Bool.not_eq_true', beq_eq_false_iff_ne, ne_eq] at h1
  exact ⟨h1.1.1, h1.2, h1.1.2⟩
theorem sound : Sound E := good1_ok (l := okT) (fun f hf => by simpa [E] using hf) (by kernel_rfl)
abbrev noExt : Nat → Option (List AV → List (List AV) → Option (AV × List (List AV))) := fun _ => none
theorem hext : ∀ f g, noExt f = some g → ∀ args ios ret fin, g args ios = some (ret, fin) → Enters E.P f ∧ CallOK E.P (E.md f) f args ios ret fin := fun f g hg => by simp [noExt] at hg
abbrev tBool : Nat := 4
theorem tagBool : tagOf E.P 4 = .bool := by kernel_rfl
theorem one_ne : (1 = 0) = False := by simp
theorem ti3 : tiOf E.P 3 = some { tag := Tag.int IntKind.i64, agg := false, size := 1, bytes := 8, zero := some (Value.int IntKind.i64 0), elem := 0, fields := [], eqs := none } := by kernel_rfl
theorem ti4 : tiOf E.P 4 = some { tag := Tag.bool, agg := false, size := 1, bytes := 1, zero := some (Value.bool false), elem := 0, fields := [], eqs := none } := by kernel_rfl
theorem ti22 : tiOf E.P 22 = some { tag := Tag.slice, agg := false, size := 1, bytes := 24, zero := some (Value.slice none 0 0), elem := 132, fields := [], eqs := none } := by kernel_rfl
theorem sl22 : isSliceT E.P 22 = true := by kernel_rfl
theorem ti24 : tiOf E.P 24 = some { tag := Tag.struct, agg := true, size := 2, bytes := 32, zero := some (Value.agg #[Value.int IntKind.i64 0, Value.slice none 0 0]), elem := 0, fields := [(0, 1, false), (1, 1, false)], eqs := none } := by kernel_rfl
theorem is24 : isStructT E.P 24 = true := by kernel_rfl
theorem ti26 : tiOf E.P 26 = some { tag := Tag.slice, agg := false, size := 1, bytes := 24, zero := some (Value.slice none 0 0), elem := 93, fields := [], eqs := none } := by kernel_rfl
theorem sl26 : isSliceT E.P 26 = true := by kernel_rfl
theorem ti28 : tiOf E.P 28 = some { tag := Tag.struct, agg := true, size := 2, bytes := 32, zero := some (Value.agg #[Value.int IntKind.i64 0, Value.slice none 0 0]), elem := 0, fields := [(0, 1, false), (1, 1, false)], eqs := none } := by kernel_rfl
theorem is28 : isStructT E.P 28 = true := by kernel_rfl
theorem ti34 : tiOf E.P 34 = some { tag := Tag.slice, agg := false, size := 1, bytes := 24, zero := some (Value.slice none 0 0), elem := 45, fields := [], eqs := none } := by kernel_rfl
theorem sl34 : isSliceT E.P 34 = true := by kernel_rfl
theorem ti39 : tiOf E.P 39 = some { tag := Tag.slice, agg := false, size := 1, bytes := 24, zero := some (Value.slice none 0 0), elem := 41, fields := [], eqs := none } := by kernel_rfl
theorem sl39 : isSliceT E.P 39 = true := by kernel_rfl
theorem ti41 : tiOf E.P 41 = some { tag := Tag.struct, agg := true, size := 4, bytes := 48, zero := some (Value.agg #[Value.int IntKind.i64 0, Value.int IntKind.i64 0, Value.int IntKind.i64 0, Value.slice none 0 0]), elem := 0, fields := [(0, 1, false), (1, 1, false), (2, 1, false), (3, 1, false)], eqs := none } := by kernel_rfl
theorem is41 : isStructT E.P 41 = true := by kernel_rfl
theorem ti45 : tiOf E.P 45 = some { tag := Tag.struct, agg := true, size := 4, bytes := 48, zero := some (Value.agg #[Value.int IntKind.i64 0, Value.int IntKind.i64 0, Value.int IntKind.i64 0, Value.slice none 0 0]), elem := 0, fields := [(0, 1, false), (1, 1, false), (2, 1, false), (3, 1, false)], eqs := none } := by kernel_rfl
theorem is45 : isStructT E.P 45 = true := by kernel_rfl
theorem ti48 : tiOf E.P 48 = some { tag := Tag.slice, agg := false, size := 1, bytes := 24, zero := some (Value.slice none 0 0), elem := 114, fields := [], eqs := none } := by kernel_rfl
theorem sl48 : isSliceT E.P 48 = true := by kernel_rfl
theorem ti49 : tiOf E.P 49 = some { tag := Tag.slice, agg := false, size := 1, bytes := 24, zero := some (Value.slice none 0 0), elem := 116, fields := [], eqs := none } := by kernel_rfl
theorem sl49 : isSliceT E.P 49 = true := by kernel_rfl
theorem ti51 : tiOf E.P 51 = some { tag := Tag.struct, agg := true, size := 6, bytes := 48, zero := some (Value.agg #[Value.int IntKind.i64 0, Value.int IntKind.i64 0, Value.int IntKind.i64 0, Value.int IntKind.i64 0, Value.int IntKind.i64 0, Value.int IntKind.i64 0]), elem := 0, fields := [(0, 1, false), (1, 1, false), (2, 1, false), (3, 1, false), (4, 1, false), (5, 1, false)], eqs := some [0, 0, 0, 0, 0, 0] } := by kernel_rfl
theorem is51 : isStructT E.P 51 = true := by kernel_rfl
theorem ti54 : tiOf E.P 54 = some { tag := Tag.slice, agg := false, size := 1, bytes := 24, zero := some (Value.slice none 0 0), elem := 3, fields := [], eqs := none } := by kernel_rfl
theorem sl54 : isSliceT E.P 54 = true := by kernel_rfl
theorem ti56 : tiOf E.P 56 = some { tag := Tag.slice, agg := false, size := 1, bytes := 24, zero := some (Value.slice none 0 0), elem := 112, fields := [], eqs := none } := by kernel_rfl
theorem sl56 : isSliceT E.P 56 = true := by kernel_rfl
theorem ti58 : tiOf E.P 58 = some { tag := Tag.slice, agg := false, size := 1, bytes := 24, zero := some (Value.slice none 0 0), elem := 110, fields := [], eqs := none } := by kernel_rfl
theorem sl58 : isSliceT E.P 58 = true := by kernel_rfl
theorem ti60 : tiOf E.P 60 = some { tag := Tag.struct, agg := true, size := 6, bytes := 48, zero := some (Value.agg #[Value.int IntKind.i64 0, Value.int IntKind.i64 0, Value.int IntKind.i64 0, Value.int IntKind.i64 0, Value.int IntKind.i64 0, Value.int IntKind.i64 0]), elem := 0, fields := [(0, 1, false), (1, 1, false), (2, 1, false), (3, 1, false), (4, 1, false), (5, 1, false)], eqs := some [0, 0, 0, 0, 0, 0] } := by kernel_rfl
theorem is60 : isStructT E.P 60 = true := by kernel_rfl
theorem ti70 : tiOf E.P 70 = some { tag := Tag.slice, agg := false, size := 1, bytes := 24, zero := some (Value.slice none 0 0), elem := 122, fields := [], eqs := none } := by kernel_rfl
theorem sl70 : isSliceT E.P 70 = true := by kernel_rfl
theorem ti78 : tiOf E.P 78 = some { tag := Tag.slice, agg := false, size := 1, bytes := 24, zero := some (Value.slice none 0 0), elem := 153, fields := [], eqs := none } := by kernel_rfl
theorem sl78 : isSliceT E.P 78 = true := by kernel_rfl
theorem ti80 : tiOf E.P 80 = some { tag := Tag.struct, agg := true, size := 3, bytes := 40, zero := some (Value.agg #[Value.int IntKind.i64 0, Value.slice none 0 0, Value.int IntKind.i64 0]), elem := 0, fields := [(0, 1, false), (1, 1, false), (2, 1, false)], eqs := none } := by kernel_rfl
theorem is80 : isStructT E.P 80 = true := by kernel_rfl
theorem ti82 : tiOf E.P 82 = some { tag := Tag.struct, agg := true, size := 5, bytes := 72, zero := some (Value.agg #[Value.slice none 0 0, Value.int IntKind.i64 0, Value.slice none 0 0, Value.int IntKind.i64 0, Value.int IntKind.i64 0]), elem := 0, fields := [(0, 1, false), (1, 3, true), (4, 1, false)], eqs := none } := by kernel_rfl
theorem is82 : isStructT E.P 82 = true := by kernel_rfl
theorem ti93 : tiOf E.P 93 = some { tag := Tag.struct, agg := true, size := 7, bytes := 72, zero := some (Value.agg #[Value.int IntKind.i64 0, Value.int IntKind.i64 0, Value.int IntKind.i64 0, Value.int IntKind.i64 0, Value.int IntKind.i64 0, Value.int IntKind.i64 0, Value.slice none 0 0]), elem := 0, fields := [(0, 1, false), (1, 1, false), (2, 1, false), (3, 4, true)], eqs := none } := by kernel_rfl
theorem is93 : isStructT E.P 93 = true := by kernel_rfl
theorem ti103 : tiOf E.P 103 = some { tag := Tag.slice, agg := false, size := 1, bytes := 24, zero := some (Value.slice none 0 0), elem := 4, fields := [], eqs := none } := by kernel_rfl
theorem sl103 : isSliceT E.P 103 = true := by kernel_rfl
theorem ti110 : tiOf E.P 110 = some { tag := Tag.struct, agg := true, size := 6, bytes := 48, zero := some (Value.agg #[Value.int IntKind.i64 0, Value.int IntKind.i64 0, Value.int IntKind.i64 0, Value.int IntKind.i64 0, Value.int IntKind.i64 0, Value.int IntKind.i64 0]), elem := 0, fields := [(0, 1, false), (1, 1, false), (2, 1, false), (3, 1, false), (4, 1, false), (5, 1, false)], eqs := some [0, 0, 0, 0, 0, 0] } := by kernel_rfl
theorem is110 : isStructT E.P 110 = true := by kernel_rfl
theorem ti112 : tiOf E.P 112 = some { tag := Tag.struct, agg := true, size := 2, bytes := 16, zero := some (Value.agg #[Value.int IntKind.i64 0, Value.int IntKind.i64 0]), elem := 0, fields := [(0, 1, false), (1, 1, false)], eqs := some [0, 0] } := by kernel_rfl
theorem is112 : isStructT E.P 112 = true := by kernel_rfl
theorem ti114 : tiOf E.P 114 = some { tag := Tag.struct, agg := true, size := 2, bytes := 16, zero := some (Value.agg #[Value.int IntKind.i64 0, Value.int IntKind.i64 0]), elem := 0, fields := [(0, 1, false), (1, 1, false)], eqs := some [0, 0] } := by kernel_rfl
theorem is114 : isStructT E.P 114 = true := by kernel_rfl
theorem ti116 : tiOf E.P 116 = some { tag := Tag.struct, agg := true, size := 6, bytes := 48, zero := some (Value.agg #[Value.int IntKind.i64 0, Value.int IntKind.i64 0, Value.int IntKind.i64 0, Value.int IntKind.i64 0, Value.int IntKind.i64 0, Value.int IntKind.i64 0]), elem := 0, fields := [(0, 1, false), (1, 1, false), (2, 1, false), (3, 1, false), (4, 1, false), (5, 1, false)], eqs := some [0, 0, 0, 0, 0, 0] } := by kernel_rfl
theorem is116 : isStructT E.P 116 = true := by kernel_rfl
theorem ti122 : tiOf E.P 122 = some { tag := Tag.struct, agg := true, size := 2, bytes := 16, zero := some (Value.agg #[Value.int IntKind.i64 0, Value.int IntKind.i64 0]), elem := 0, fields := [(0, 1, false), (1, 1, false)], eqs := some [0, 0] } := by kernel_rfl
theorem is122 : isStructT E.P 122 = true := by kernel_rfl
theorem ti132 : tiOf E.P 132 = some { tag := Tag.struct, agg := true, size := 7, bytes := 72, zero := some (Value.agg #[Value.int IntKind.i64 0, Value.int IntKind.i64 0, Value.int IntKind.i64 0, Value.int IntKind.i64 0, Value.int IntKind.i64 0, Value.int IntKind.i64 0, Value.slice none 0 0]), elem := 0, fields := [(0, 1, false), (1, 1, false), (2, 1, false), (3, 4, true)], eqs := none } := by kernel_rfl
theorem is132 : isStructT E.P 132 = true := by kernel_rfl
theorem ti153 : tiOf E.P 153 = some { tag := Tag.struct, agg := true, size := 3, bytes := 24, zero := some (Value.agg #[Value.int IntKind.i64 0, Value.int IntKind.i64 0, Value.int IntKind.i64 0]), elem := 0, fields := [(0, 1, false), (1, 1, false), (2, 1, false)], eqs := some [0, 0, 0] } := by kernel_rfl
theorem is153 : isStructT E.P 153 = true := by kernel_rfl
theorem plan_3_10 : E.plan 3 10 = [(.no, 0), (.no, 1), (.quiet, 2), (.no, 3), (.no, 4)] := rfl
theorem plan_4_10 : E.plan 4 10 = [(.no, 0), (.no, 1), (.quiet, 2), (.no, 3), (.no, 4)] := rfl
theorem plan_5_8 : E.plan 5 8 = [(.no, 0), (.no, 2), (.quiet, 1), (.no, 3), (.no, 4), (.no, 5)] := rfl
theorem plan_5_14 : E.plan 5 14 = [(.no, 0), (.no, 1), (.quiet, 2), (.no, 3), (.no, 4)] := rfl
theorem plan_5_16 : E.plan 5 16 = [(.no, 0), (.no, 1), (.quiet, 2), (.no, 3), (.no, 4)] := rfl
theorem plan_6_11 : E.plan 6 11 = [(.no, 0), (.no, 2), (.no, 4), (.no, 6), (.quiet, 1), (.quiet, 3), (.quiet, 5), (.no, 7), (.no, 8), (.no, 9)] := rfl
theorem plan_6_15 : E.plan 6 15 = [(.no, 0), (.no, 1), (.no, 2), (.no, 3), (.quiet, 4), (.no, 5), (.no, 6)] := rfl
theorem plan_6_22 : E.plan 6 22 = [(.no, 0), (.no, 1), (.quiet, 2), (.no, 3), (.no, 4)] := rfl
theorem plan_6_38 : E.plan 6 38 = [(.no, 0), (.no, 2), (.no, 4), (.no, 6), (.quiet, 1), (.quiet, 3), (.quiet, 5), (.no, 7), (.no, 8), (.no, 9)] := rfl
theorem plan_7_10 : E.plan 7 10 = [(.no, 0), (.no, 1), (.quiet, 2), (.no, 3), (.no, 4)] := rfl
theorem plan_8_10 : E.plan 8 10 = [(.no, 0), (.no, 1), (.quiet, 2), (.no, 3), (.no, 4)] := rfl
theorem plan_9_8 : E.plan 9 8 = [(.no, 0), (.no, 2), (.no, 4), (.no, 5), (.quiet, 1), (.quiet, 3), (.no, 6), (.no, 7)] := rfl
theorem plan_9_14 : E.plan 9 14 = [(.no, 0), (.no, 1), (.quiet, 2), (.no, 3), (.no, 4)] := rfl
theorem plan_9_16 : E.plan 9 16 = [(.no, 0), (.no, 1), (.quiet, 2), (.no, 3), (.no, 4)] := rfl
theorem plan_10_10 : E.plan 10 10 = [(.no, 0), (.no, 1), (.quiet, 2), (.no, 3), (.no, 4)] := rfl
theorem plan_12_3 : E.plan 12 3 = [(.no, 1), (.no, 2), (.no, 3), (.no, 4), (.no, 6), (.no, 7), (.no, 8), (.no, 9), (.no, 10), (.soft true [1, 5, 15, 16, 17, 18, 20, 21, 22, 23, 24], 0), (.soft true [1, 5, 20, 21, 22, 23, 24], 5), (.no, 11), (.no, 12), (.no, 13)] := rfl
theorem plan_20_6 : E.plan 20 6 = [(.no, 0), (.no, 1), (.no, 2), (.no, 3), (.no, 4), (.no, 5), (.no, 6), (.no, 7), (.no, 8), (.no, 9)] := rfl
theorem plan_26_3 : E.plan 26 3 = [(.no, 0), (.no, 1), (.quiet, 2), (.no, 3), (.no, 4)] := rfl
theorem plan_30_10 : E.plan 30 10 = [(.no, 0), (.no, 1), (.no, 2), (.no, 3), (.no, 4), (.no, 5), (.no, 6), (.no, 7), (.no, 8), (.no, 9), (.no, 10), (.no, 11), (.no, 12), (.no, 13)] := rfl
theorem plan_35_6 : E.plan 35 6 = [(.no, 0), (.no, 1), (.no, 2), (.no, 3), (.no, 4), (.no, 5), (.no, 6), (.no, 7), (.no, 8)] := rfl
theorem plan_36_6 : E.plan 36 6 = [(.no, 0), (.no, 1), (.no, 2), (.no, 3), (.no, 4), (.no, 5), (.no, 6), (.no, 7), (.no, 8), (.no, 9)] := rfl
theorem plan_37_6 : E.plan 37 6 = [(.no, 0), (.no, 1), (.no, 2), (.no, 3), (.no, 4), (.no, 5), (.no, 6), (.no, 7), (.no, 8), (.no, 9)] := rfl
theorem plan_45_6 : E.plan 45 6 = [(.no, 0), (.no, 1), (.no, 2), (.no, 3), (.no, 4), (.no, 5), (.no, 6), (.no, 7), (.no, 8), (.no, 9)] := rfl
theorem plan_50_3 : E.plan 50 3 = [(.no, 0), (.no, 1), (.no, 2), (.no, 4), (.no, 5), (.no, 6), (.quiet, 3), (.no, 7), (.no, 8), (.no, 9)] := rfl
theorem plan_52_8 : E.plan 52 8 = [(.no, 0), (.no, 1), (.no, 2), (.no, 3), (.no, 4), (.no, 5), (.no, 6), (.no, 7), (.quiet, 8), (.quiet, 9), (.soft false [9, 34], 10), (.no, 11), (.no, 12)] := rfl
theorem plan_53_9 : E.plan 53 9 = [(.no, 0), (.no, 1), (.no, 2), (.no, 3), (.no, 4), (.no, 5), (.no, 6), (.no, 7), (.quiet, 8), (.quiet, 9), (.soft false [9, 32], 10), (.no, 11), (.no, 12)] := rfl
theorem plan_62_6 : E.plan 62 6 = [(.no, 0), (.no, 1), (.no, 2), (.no, 3), (.no, 4), (.no, 5), (.no, 6), (.no, 7), (.no, 8), (.no, 9)] := rfl
theorem plan_66_5 : E.plan 66 5 = [(.no, 0), (.no, 1), (.no, 2), (.no, 3), (.no, 4), (.no, 5)] := rfl
theorem plan_93_8 : E.plan 93 8 = [(.no, 0), (.no, 1), (.no, 2), (.no, 3), (.no, 4), (.no, 6), (.no, 7), (.no, 8), (.no, 9), (.no, 10), (.quiet, 5), (.no, 11), (.no, 12)] := rfl
theorem plan_96_8 : E.plan 96 8 = [(.no, 0), (.no, 1), (.no, 2), (.no, 3), (.no, 4), (.no, 5), (.no, 7), (.no, 8), (.no, 9), (.no, 10), (.no, 11), (.no, 12), (.quiet, 6), (.no, 13), (.no, 14)] := rfl
theorem plan_105_5 : E.plan 105 5 = [(.no, 0), (.no, 1), (.no, 2), (.no, 3), (.no, 4), (.no, 5), (.no, 6), (.quiet, 7), (.soft true [3, 19, 20], 8), (.no, 9), (.no, 10), (.no, 11)] := rfl
theorem plan_107_5 : E.plan 107 5 = [(.no, 0), (.no, 1), (.no, 2), (.quiet, 3), (.soft true [3, 20, 21], 4), (.no, 5), (.no, 6), (.no, 7)] := rfl
theorem plan_109_6 : E.plan 109 6 = [(.no, 0), (.no, 1), (.no, 2), (.no, 3), (.no, 4), (.no, 5), (.no, 6), (.no, 7), (.no, 8), (.no, 9), (.no, 10), (.no, 11)] := rfl
theorem plan_128_13 : E.plan 128 13 = [(.no, 0), (.no, 1), (.no, 2), (.no, 3), (.no, 4), (.no, 5), (.no, 6), (.no, 7), (.no, 8)] := rfl
theorem plan_128_15 : E.plan 128 15 = [(.no, 0), (.no, 1), (.no, 2), (.no, 3), (.no, 4), (.no, 5), (.soft true [0, 65, 66, 67, 68, 69], 6), (.soft false [0, 65], 7), (.no, 8), (.no, 9), (.no, 10)] := rfl
theorem plan_129_10 : E.plan 129 10 = [(.no, 0), (.no, 1), (.no, 2), (.no, 3), (.no, 4), (.no, 5), (.no, 6)] := rfl
theorem plan_129_13 : E.plan 129 13 = [(.no, 0), (.no, 1), (.no, 2), (.no, 3), (.no, 4), (.no, 5), (.soft true [0, 56, 57, 58, 59, 60], 6), (.soft false [0, 56], 7), (.no, 8), (.no, 9), (.no, 10)] := rfl
theorem plan_130_6 : E.plan 130 6 = [(.no, 0), (.no, 1), (.no, 2), (.no, 3), (.no, 4), (.no, 5), (.no, 6), (.no, 7), (.no, 8), (.no, 9)] := rfl
theorem plan_134_13 : E.plan 134 13 = [(.no, 0), (.no, 1), (.no, 2), (.no, 3), (.no, 4), (.no, 5), (.no, 6), (.no, 7), (.no, 8), (.no, 9), (.quiet, 10), (.no, 11), (.no, 12), (.no, 13)] := rfl
theorem plan_135_4 : E.plan 135 4 = [(.no, 0), (.no, 1), (.no, 2), (.no, 3), (.no, 4), (.no, 5)] := rfl
theorem plan_136_12 : E.plan 136 12 = [(.no, 0), (.no, 1), (.no, 2), (.no, 3), (.no, 4), (.quiet, 5), (.no, 6), (.no, 7), (.no, 8), (.no, 9), (.no, 10), (.no, 11), (.no, 12), (.no, 13), (.no, 14), (.no, 15), (.no, 16), (.no, 17), (.no, 18), (.no, 19)] := rfl
theorem plan_147_4 : E.plan 147 4 = [(.no, 0), (.no, 1), (.no, 2), (.no, 3), (.no, 4), (.no, 5)] := rfl
theorem keep_14_3 : E.keep 14 3 = [1, 4, 5, 13, 14, 15] := rfl
theorem keep_18_3 : E.keep 18 3 = [1, 2, 3, 7, 8] := rfl
theorem keep_19_3 : E.keep 19 3 = [1, 2, 7, 12, 13, 14] := rfl
theorem keep_20_4 : E.keep 20 4 = [0, 1, 5] := rfl
theorem keep_21_2 : E.keep 21 2 = [0, 1, 5] := rfl
theorem keep_22_2 : E.keep 22 2 = [0, 1, 5] := rfl
theorem keep_24_7 : E.keep 24 7 = [2, 3, 5, 6] := rfl
theorem keep_26_7 : E.keep 26 7 = [2, 3, 5, 25, 26] := rfl
theorem keep_30_8 : E.keep 30 8 = [1, 7, 9, 10, 11, 12, 13] := rfl
theorem keep_30_4 : E.keep 30 4 = [1, 7, 9, 10, 11] := rfl
theorem keep_31_3 : E.keep 31 3 = [0, 3, 4] := rfl
theorem keep_32_3 : E.keep 32 3 = [0, 3, 4] := rfl
theorem keep_34_3 : E.keep 34 3 = [7, 9, 10, 16, 17, 18] := rfl
theorem keep_35_4 : E.keep 35 4 = [0, 1, 5] := rfl
theorem keep_36_4 : E.keep 36 4 = [0, 1, 5] := rfl
theorem keep_37_4 : E.keep 37 4 = [0, 1, 5] := rfl
theorem keep_38_2 : E.keep 38 2 = [0, 1, 5] := rfl
theorem keep_39_2 : E.keep 39 2 = [0, 1, 5] := rfl
theorem keep_41_2 : E.keep 41 2 = [0, 1, 5] := rfl
theorem keep_42_2 : E.keep 42 2 = [0, 1, 5] := rfl
theorem keep_43_6 : E.keep 43 6 = [1, 3, 4, 5] := rfl
theorem keep_43_3 : E.keep 43 3 = [1, 3, 4] := rfl
theorem keep_44_6 : E.keep 44 6 = [1, 3, 4, 5, 10, 11, 12, 18, 19, 20] := rfl
theorem keep_44_3 : E.keep 44 3 = [1, 3, 10, 11, 12] := rfl
theorem keep_45_4 : E.keep 45 4 = [0, 1, 5] := rfl
theorem keep_46_2 : E.keep 46 2 = [0, 1, 5] := rfl
theorem keep_47_2 : E.keep 47 2 = [0, 1, 5] := rfl
theorem keep_48_8 : E.keep 48 8 = [2, 5, 6, 7] := rfl
theorem keep_48_5 : E.keep 48 5 = [2, 5, 6] := rfl
theorem keep_49_8 : E.keep 49 8 = [2, 5, 6, 7, 23] := rfl
theorem keep_49_5 : E.keep 49 5 = [2, 5, 23] := rfl
theorem keep_50_7 : E.keep 50 7 = [2, 3, 4, 5, 13, 14] := rfl
theorem keep_51_15 : E.keep 51 15 = [2, 3, 4, 5, 13, 61, 62] := rfl
theorem keep_51_7 : E.keep 51 7 = [2, 3, 4, 5, 13, 41, 42, 43] := rfl
theorem keep_52_6 : E.keep 52 6 = [1, 2, 3, 6, 8, 9, 10] := rfl
theorem keep_53_7 : E.keep 53 7 = [1, 2, 3, 6, 8, 9, 28, 29] := rfl
theorem keep_57_5 : E.keep 57 5 = [0, 1, 5] := rfl
theorem keep_58_3 : E.keep 58 3 = [1, 2, 3, 4] := rfl
theorem keep_60_3 : E.keep 60 3 = [0, 3, 4] := rfl
theorem keep_61_3 : E.keep 61 3 = [3, 7, 8, 9] := rfl
theorem keep_62_4 : E.keep 62 4 = [0, 1, 5] := rfl
theorem keep_63_2 : E.keep 63 2 = [0, 1, 5] := rfl
theorem keep_64_2 : E.keep 64 2 = [0, 1, 5] := rfl
theorem keep_66_9 : E.keep 66 9 = [0, 3, 6] := rfl
theorem keep_66_3 : E.keep 66 3 = [0, 3, 5] := rfl
theorem keep_68_4 : E.keep 68 4 = [1, 28, 29, 30] := rfl
theorem keep_69_5 : E.keep 69 5 = [0, 1, 5] := rfl
theorem keep_71_7 : E.keep 71 7 = [1, 5, 7] := rfl
theorem keep_71_3 : E.keep 71 3 = [0, 1, 5, 6] := rfl
theorem keep_72_3 : E.keep 72 3 = [0, 3, 4] := rfl
theorem keep_73_3 : E.keep 73 3 = [0, 1, 5, 6] := rfl
theorem keep_75_3 : E.keep 75 3 = [0, 3, 4] := rfl
theorem keep_78_3 : E.keep 78 3 = [1, 5, 8, 9] := rfl
theorem keep_92_2 : E.keep 92 2 = [1, 3] := rfl
theorem keep_93_5 : E.keep 93 5 = [2, 3, 4, 5, 9, 10] := rfl
theorem keep_96_5 : E.keep 96 5 = [2, 3, 4, 5, 9, 25, 26] := rfl
theorem keep_97_3 : E.keep 97 3 = [1, 2, 3, 4, 5, 11, 12] := rfl
theorem keep_98_3 : E.keep 98 3 = [1, 2, 3, 4, 5, 11, 16, 17, 18] := rfl
theorem keep_105_3 : E.keep 105 3 = [1, 2, 3, 4] := rfl
theorem keep_107_3 : E.keep 107 3 = [2, 3, 14, 15, 16] := rfl
theorem keep_109_4 : E.keep 109 4 = [2, 3, 5] := rfl
theorem keep_112_3 : E.keep 112 3 = [1, 2, 5] := rfl
theorem keep_113_4 : E.keep 113 4 = [1, 3] := rfl
theorem keep_115_3 : E.keep 115 3 = [3, 7, 8, 9] := rfl
theorem keep_119_2 : E.keep 119 2 = [0, 1, 7, 8] := rfl
theorem keep_127_3 : E.keep 127 3 = [2, 5, 8, 9, 10] := rfl
theorem keep_128_11 : E.keep 128 11 = [0, 11, 12] := rfl
theorem keep_130_4 : E.keep 130 4 = [0, 1, 5] := rfl
theorem keep_131_2 : E.keep 131 2 = [0, 1, 5] := rfl
theorem keep_132_2 : E.keep 132 2 = [0, 1, 5] := rfl
theorem keep_133_4 : E.keep 133 4 = [1, 2, 15, 16, 17] := rfl
theorem keep_135_2 : E.keep 135 2 = [1, 2, 3, 7] := rfl
theorem keep_145_2 : E.keep 145 2 = [0, 1, 7, 8] := rfl
theorem keep_147_2 : E.keep 147 2 = [0, 3, 7, 8] := rfl
theorem md_3 : E.md 3 = [] := rfl
theorem md_4 : E.md 4 = [] := rfl
theorem md_5 : E.md 5 = [] := rfl
theorem md_6 : E.md 6 = [] := rfl
theorem md_7 : E.md 7 = [] := rfl
theorem md_8 : E.md 8 = [] := rfl
theorem md_9 : E.md 9 = [] := rfl
theorem md_10 : E.md 10 = [] := rfl
theorem md_11 : E.md 11 = [] := rfl
theorem md_12 : E.md 12 = [] := rfl
theorem md_13 : E.md 13 = [] := rfl
theorem md_14 : E.md 14 = [] := rfl
theorem md_15 : E.md 15 = [] := rfl
theorem md_16 : E.md 16 = [.«mut», .ro] := rfl
theorem md_17 : E.md 17 = [] := rfl
theorem md_18 : E.md 18 = [] := rfl
theorem md_19 : E.md 19 = [] := rfl
theorem md_20 : E.md 20 = [] := rfl
theorem md_21 : E.md 21 = [.«mut», .ro] := rfl
theorem md_22 : E.md 22 = [] := rfl
theorem md_23 : E.md 23 = [] := rfl
theorem md_24 : E.md 24 = [] := rfl
theorem md_25 : E.md 25 = [] := rfl
theorem md_26 : E.md 26 = [] := rfl
theorem md_27 : E.md 27 = [] := rfl
theorem md_28 : E.md 28 = [] := rfl
theorem md_29 : E.md 29 = [] := rfl
theorem md_30 : E.md 30 = [] := rfl
theorem md_31 : E.md 31 = [] := rfl
theorem md_32 : E.md 32 = [] := rfl
theorem md_33 : E.md 33 = [] := rfl
theorem md_34 : E.md 34 = [] := rfl
theorem md_35 : E.md 35 = [] := rfl
theorem md_36 : E.md 36 = [] := rfl
theorem md_37 : E.md 37 = [] := rfl
theorem md_38 : E.md 38 = [.«mut», .ro] := rfl
theorem md_39 : E.md 39 = [.«mut», .ro] := rfl
theorem md_40 : E.md 40 = [.«mut», .ro] := rfl
theorem md_41 : E.md 41 = [.«mut», .ro] := rfl
theorem md_42 : E.md 42 = [] := rfl
theorem md_43 : E.md 43 = [] := rfl
theorem md_44 : E.md 44 = [] := rfl
theorem md_45 : E.md 45 = [] := rfl
theorem md_46 : E.md 46 = [.«mut», .ro] := rfl
theorem md_47 : E.md 47 = [] := rfl
theorem md_48 : E.md 48 = [] := rfl
theorem md_49 : E.md 49 = [] := rfl
theorem md_50 : E.md 50 = [] := rfl
theorem md_51 : E.md 51 = [] := rfl
theorem md_52 : E.md 52 = [] := rfl
theorem md_53 : E.md 53 = [] := rfl
theorem md_54 : E.md 54 = [] := rfl
theorem md_55 : E.md 55 = [.«mut», .ro] := rfl
theorem md_56 : E.md 56 = [] := rfl
theorem md_57 : E.md 57 = [] := rfl
theorem md_58 : E.md 58 = [] := rfl
theorem md_59 : E.md 59 = [] := rfl
theorem md_60 : E.md 60 = [] := rfl
theorem md_61 : E.md 61 = [] := rfl
theorem md_62 : E.md 62 = [] := rfl
theorem md_63 : E.md 63 = [.«mut», .ro] := rfl
theorem md_64 : E.md 64 = [] := rfl
theorem md_65 : E.md 65 = [] := rfl
theorem md_66 : E.md 66 = [.give, .ro] := rfl
theorem md_67 : E.md 67 = [] := rfl
theorem md_68 : E.md 68 = [.ro, .give] := rfl
theorem md_69 : E.md 69 = [] := rfl
theorem md_70 : E.md 70 = [] := rfl
theorem md_71 : E.md 71 = [] := rfl
theorem md_72 : E.md 72 = [] := rfl
theorem md_73 : E.md 73 = [] := rfl
theorem md_74 : E.md 74 = [] := rfl
theorem md_75 : E.md 75 = [] := rfl
theorem md_76 : E.md 76 = [] := rfl
theorem md_77 : E.md 77 = [] := rfl
theorem md_78 : E.md 78 = [] := rfl
theorem md_79 : E.md 79 = [] := rfl
theorem md_80 : E.md 80 = [] := rfl
theorem md_81 : E.md 81 = [] := rfl
theorem md_82 : E.md 82 = [] := rfl
theorem md_83 : E.md 83 = [] := rfl
theorem md_84 : E.md 84 = [] := rfl
theorem md_85 : E.md 85 = [] := rfl
theorem md_86 : E.md 86 = [] := rfl
theorem md_87 : E.md 87 = [] := rfl
theorem md_88 : E.md 88 = [] := rfl
theorem md_89 : E.md 89 = [] := rfl
theorem md_90 : E.md 90 = [] := rfl
theorem md_91 : E.md 91 = [] := rfl
theorem md_92 : E.md 92 = [] := rfl
theorem md_93 : E.md 93 = [] := rfl
theorem md_94 : E.md 94 = [] := rfl
theorem md_95 : E.md 95 = [] := rfl
theorem md_96 : E.md 96 = [] := rfl
theorem md_97 : E.md 97 = [] := rfl
theorem md_98 : E.md 98 = [] := rfl
theorem md_99 : E.md 99 = [] := rfl
theorem md_100 : E.md 100 = [] := rfl
theorem md_101 : E.md 101 = [] := rfl
theorem md_102 : E.md 102 = [.«mut», .ro] := rfl
theorem md_103 : E.md 103 = [] := rfl
theorem md_104 : E.md 104 = [] := rfl
theorem md_105 : E.md 105 = [] := rfl
theorem md_106 : E.md 106 = [] := rfl
theorem md_107 : E.md 107 = [] := rfl
theorem md_108 : E.md 108 = [] := rfl
theorem md_109 : E.md 109 = [] := rfl
theorem md_110 : E.md 110 = [] := rfl
theorem md_111 : E.md 111 = [] := rfl
theorem md_112 : E.md 112 = [] := rfl
theorem md_113 : E.md 113 = [] := rfl
theorem md_114 : E.md 114 = [] := rfl
theorem md_115 : E.md 115 = [] := rfl
theorem md_116 : E.md 116 = [] := rfl
theorem md_117 : E.md 117 = [] := rfl
theorem md_118 : E.md 118 = [] := rfl
theorem md_119 : E.md 119 = [] := rfl
theorem md_120 : E.md 120 = [] := rfl
theorem md_121 : E.md 121 = [] := rfl
theorem md_122 : E.md 122 = [] := rfl
theorem md_123 : E.md 123 = [] := rfl
theorem md_124 : E.md 124 = [] := rfl
theorem md_125 : E.md 125 = [] := rfl
theorem md_126 : E.md 126 = [] := rfl
theorem md_127 : E.md 127 = [] := rfl
theorem md_128 : E.md 128 = [.io, .ro, .ro, .ro] := rfl
theorem md_129 : E.md 129 = [.io, .ro, .ro, .ro] := rfl
theorem md_130 : E.md 130 = [] := rfl
theorem md_131 : E.md 131 = [.«mut», .ro] := rfl
theorem md_132 : E.md 132 = [] := rfl
theorem md_133 : E.md 133 = [] := rfl
theorem md_134 : E.md 134 = [] := rfl
theorem md_135 : E.md 135 = [] := rfl
theorem md_136 : E.md 136 = [] := rfl
theorem md_137 : E.md 137 = [] := rfl
theorem md_138 : E.md 138 = [] := rfl
theorem md_139 : E.md 139 = [] := rfl
theorem md_140 : E.md 140 = [] := rfl
theorem md_141 : E.md 141 = [] := rfl
theorem md_142 : E.md 142 = [] := rfl
theorem md_143 : E.md 143 = [] := rfl
theorem md_144 : E.md 144 = [] := rfl
theorem md_145 : E.md 145 = [] := rfl
theorem md_146 : E.md 146 = [] := rfl
theorem md_147 : E.md 147 = [] := rfl
theorem md_148 : E.md 148 = [] := rfl
theorem md_149 : E.md 149 = [] := rfl
theorem md_150 : E.md 150 = [] := rfl
theorem md_151 : E.md 151 = [] := rfl
theorem md_152 : E.md 152 = [] := rfl
theorem md_153 : E.md 153 = [] := rfl
theorem md_154 : E.md 154 = [] := rfl
theorem md_155 : E.md 155 = [] := rfl
theorem md_156 : E.md 156 = [] := rfl
theorem md_157 : E.md 157 = [] := rfl
theorem tr_3 : E.tree 3 = false := rfl
theorem tr_4 : E.tree 4 = false := rfl
theorem tr_5 : E.tree 5 = false := rfl
theorem tr_6 : E.tree 6 = false := rfl
theorem tr_7 : E.tree 7 = false := rfl
theorem tr_8 : E.tree 8 = false := rfl
theorem tr_9 : E.tree 9 = false := rfl
theorem tr_10 : E.tree 10 = false := rfl
theorem tr_11 : E.tree 11 = false := rfl
theorem tr_12 : E.tree 12 = false := rfl
theorem tr_13 : E.tree 13 = true := rfl
theorem tr_14 : E.tree 14 = false := rfl
theorem tr_15 : E.tree 15 = false := rfl
theorem tr_16 : E.tree 16 = false := rfl
theorem tr_17 : E.tree 17 = false := rfl
theorem tr_18 : E.tree 18 = false := rfl
theorem tr_19 : E.tree 19 = false := rfl
theorem tr_20 : E.tree 20 = false := rfl
theorem tr_21 : E.tree 21 = false := rfl
theorem tr_22 : E.tree 22 = false := rfl
theorem tr_23 : E.tree 23 = false := rfl
theorem tr_24 : E.tree 24 = false := rfl
theorem tr_25 : E.tree 25 = true := rfl
theorem tr_26 : E.tree 26 = false := rfl
theorem tr_27 : E.tree 27 = false := rfl
theorem tr_28 : E.tree 28 = false := rfl
theorem tr_29 : E.tree 29 = false := rfl
theorem tr_30 : E.tree 30 = false := rfl
theorem tr_31 : E.tree 31 = false := rfl
theorem tr_32 : E.tree 32 = false := rfl
theorem tr_33 : E.tree 33 = false := rfl
theorem tr_34 : E.tree 34 = false := rfl
theorem tr_35 : E.tree 35 = false := rfl
theorem tr_36 : E.tree 36 = false := rfl
theorem tr_37 : E.tree 37 = false := rfl
theorem tr_38 : E.tree 38 = false := rfl
theorem tr_39 : E.tree 39 = false := rfl
theorem tr_40 : E.tree 40 = false := rfl
theorem tr_41 : E.tree 41 = false := rfl
theorem tr_42 : E.tree 42 = false := rfl
theorem tr_43 : E.tree 43 = false := rfl
theorem tr_44 : E.tree 44 = false := rfl
theorem tr_45 : E.tree 45 = false := rfl
theorem tr_46 : E.tree 46 = false := rfl
theorem tr_47 : E.tree 47 = false := rfl
theorem tr_48 : E.tree 48 = false := rfl
theorem tr_49 : E.tree 49 = false := rfl
theorem tr_50 : E.tree 50 = false := rfl
theorem tr_51 : E.tree 51 = false := rfl
theorem tr_52 : E.tree 52 = false := rfl
theorem tr_53 : E.tree 53 = false := rfl
theorem tr_54 : E.tree 54 = false := rfl
theorem tr_55 : E.tree 55 = false := rfl
theorem tr_56 : E.tree 56 = false := rfl
theorem tr_57 : E.tree 57 = false := rfl
theorem tr_58 : E.tree 58 = true := rfl
theorem tr_59 : E.tree 59 = false := rfl
theorem tr_60 : E.tree 60 = true := rfl
theorem tr_61 : E.tree 61 = true := rfl
theorem tr_62 : E.tree 62 = false := rfl
theorem tr_63 : E.tree 63 = false := rfl
theorem tr_64 : E.tree 64 = false := rfl
theorem tr_65 : E.tree 65 = false := rfl
theorem tr_66 : E.tree 66 = false := rfl
theorem tr_67 : E.tree 67 = false := rfl
theorem tr_68 : E.tree 68 = false := rfl
theorem tr_69 : E.tree 69 = false := rfl
theorem tr_70 : E.tree 70 = false := rfl
theorem tr_71 : E.tree 71 = false := rfl
theorem tr_72 : E.tree 72 = false := rfl
theorem tr_73 : E.tree 73 = false := rfl
theorem tr_74 : E.tree 74 = false := rfl
theorem tr_75 : E.tree 75 = true := rfl
theorem tr_76 : E.tree 76 = false := rfl
theorem tr_77 : E.tree 77 = false := rfl
theorem tr_78 : E.tree 78 = false := rfl
theorem tr_79 : E.tree 79 = false := rfl
theorem tr_80 : E.tree 80 = false := rfl
theorem tr_81 : E.tree 81 = false := rfl
theorem tr_82 : E.tree 82 = false := rfl
theorem tr_83 : E.tree 83 = false := rfl
theorem tr_84 : E.tree 84 = false := rfl
theorem tr_85 : E.tree 85 = false := rfl
theorem tr_86 : E.tree 86 = false := rfl
theorem tr_87 : E.tree 87 = false := rfl
theorem tr_88 : E.tree 88 = false := rfl
theorem tr_89 : E.tree 89 = false := rfl
theorem tr_90 : E.tree 90 = false := rfl
theorem tr_91 : E.tree 91 = false := rfl
theorem tr_92 : E.tree 92 = false := rfl
theorem tr_93 : E.tree 93 = false := rfl
theorem tr_94 : E.tree 94 = false := rfl
theorem tr_95 : E.tree 95 = false := rfl
theorem tr_96 : E.tree 96 = false := rfl
theorem tr_97 : E.tree 97 = false := rfl
theorem tr_98 : E.tree 98 = false := rfl
theorem tr_99 : E.tree 99 = false := rfl
theorem tr_100 : E.tree 100 = false := rfl
theorem tr_101 : E.tree 101 = false := rfl
theorem tr_102 : E.tree 102 = false := rfl
theorem tr_103 : E.tree 103 = false := rfl
theorem tr_104 : E.tree 104 = false := rfl
theorem tr_105 : E.tree 105 = true := rfl
theorem tr_106 : E.tree 106 = true := rfl
theorem tr_107 : E.tree 107 = true := rfl
theorem tr_108 : E.tree 108 = false := rfl
theorem tr_109 : E.tree 109 = false := rfl
theorem tr_110 : E.tree 110 = false := rfl
theorem tr_111 : E.tree 111 = false := rfl
theorem tr_112 : E.tree 112 = false := rfl
theorem tr_113 : E.tree 113 = false := rfl
theorem tr_114 : E.tree 114 = false := rfl
theorem tr_115 : E.tree 115 = false := rfl
theorem tr_116 : E.tree 116 = false := rfl
theorem tr_117 : E.tree 117 = false := rfl
theorem tr_118 : E.tree 118 = false := rfl
theorem tr_119 : E.tree 119 = false := rfl
theorem tr_120 : E.tree 120 = false := rfl
theorem tr_121 : E.tree 121 = false := rfl
theorem tr_122 : E.tree 122 = false := rfl
theorem tr_123 : E.tree 123 = false := rfl
theorem tr_124 : E.tree 124 = false := rfl
theorem tr_125 : E.tree 125 = false := rfl
theorem tr_126 : E.tree 126 = false := rfl
theorem tr_127 : E.tree 127 = false := rfl
theorem tr_128 : E.tree 128 = false := rfl
theorem tr_129 : E.tree 129 = false := rfl
theorem tr_130 : E.tree 130 = false := rfl
theorem tr_131 : E.tree 131 = false := rfl
theorem tr_132 : E.tree 132 = false := rfl
theorem tr_133 : E.tree 133 = false := rfl
theorem tr_134 : E.tree 134 = false := rfl
theorem tr_135 : E.tree 135 = false := rfl
theorem tr_136 : E.tree 136 = false := rfl
theorem tr_137 : E.tree 137 = false := rfl
theorem tr_138 : E.tree 138 = false := rfl
theorem tr_139 : E.tree 139 = false := rfl
theorem tr_140 : E.tree 140 = false := rfl
theorem tr_141 : E.tree 141 = false := rfl
theorem tr_142 : E.tree 142 = false := rfl
theorem tr_143 : E.tree 143 = false := rfl
theorem tr_144 : E.tree 144 = false := rfl
theorem tr_145 : E.tree 145 = false := rfl
theorem tr_146 : E.tree 146 = false := rfl
theorem tr_147 : E.tree 147 = false := rfl
theorem tr_148 : E.tree 148 = false := rfl
theorem tr_149 : E.tree 149 = false := rfl
theorem tr_150 : E.tree 150 = false := rfl
theorem tr_151 : E.tree 151 = false := rfl
theorem tr_152 : E.tree 152 = false := rfl
theorem tr_153 : E.tree 153 = false := rfl
theorem tr_154 : E.tree 154 = false := rfl
theorem tr_155 : E.tree 155 = false := rfl
theorem tr_156 : E.tree 156 = false := rfl
theorem tr_157 : E.tree 157 = false := rfl
theorem MDS : type_of% (And.intro (And.intro (And.intro (And.intro (And.intro (And.intro (And.intro (And.intro @md_3 @md_4) (And.intro @md_5 @md_6)) (And.intro (And.intro @md_7 @md_8) (And.intro @md_9 (And.intro @md_10 @md_11)))) (And.intro (And.intro (And.intro @md_12 @md_13) (And.intro @md_14 (And.intro @md_15 @md_16))) (And.intro (And.intro @md_17 @md_18) (And.intro @md_19 (And.intro @md_20 @md_21))))) (And.intro (And.intro (And.intro (And.intro @md_22 @md_23) (And.intro @md_24 @md_25)) (And.intro (And.intro @md_26 @md_27) (And.intro @md_28 (And.intro @md_29 @md_30)))) (And.intro (And.intro (And.intro @md_31 @md_32) (And.intro @md_33 (And.intro @md_34 @md_35))) (And.intro (And.intro @md_36 @md_37) (And.intro @md_38 (And.intro @md_39 @md_40)))))) (And.intro (And.intro (And.intro (And.intro (And.intro @md_41 @md_42) (And.intro @md_43 @md_44)) (And.intro (And.intro @md_45 @md_46) (And.intro @md_47 (And.intro @md_48 @md_49)))) (And.intro (And.intro (And.intro @md_50 @md_51) (And.intro @md_52 (And.intro @md_53 @md_54))) (And.intro (And.intro @md_55 @md_56) (And.intro @md_57 (And.intro @md_58 @md_59))))) (And.intro (And.intro (And.intro (And.intro @md_60 @md_61) (And.intro @md_62 (And.intro @md_63 @md_64))) (And.intro (And.intro @md_65 @md_66) (And.intro @md_67 (And.intro @md_68 @md_69)))) (And.intro (And.intro (And.intro @md_70 @md_71) (And.intro @md_72 (And.intro @md_73 @md_74))) (And.intro (And.intro @md_75 @md_76) (And.intro @md_77 (And.intro @md_78 @md_79))))))) (And.intro (And.intro (And.intro (And.intro (And.intro (And.intro @md_80 @md_81) (And.intro @md_82 @md_83)) (And.intro (And.intro @md_84 @md_85) (And.intro @md_86 (And.intro @md_87 @md_88)))) (And.intro (And.intro (And.intro @md_89 @md_90) (And.intro @md_91 (And.intro @md_92 @md_93))) (And.intro (And.intro @md_94 @md_95) (And.intro @md_96 (And.intro @md_97 @md_98))))) (And.intro (And.intro (And.intro (And.intro @md_99 @md_100) (And.intro @md_101 (And.intro @md_102 @md_103))) (And.intro (And.intro @md_104 @md_105) (And.intro @md_106 (And.intro @md_107 @md_108)))) (And.intro (And.intro (And.intro @md_109 @md_110) (And.intro @md_111 (And.intro @md_112 @md_113))) (And.intro (And.intro @md_114 @md_115) (And.intro @md_116 (And.intro @md_117 @md_118)))))) (And.intro (And.intro (And.intro (And.intro (And.intro @md_119 @md_120) (And.intro @md_121 @md_122)) (And.intro (And.intro @md_123 @md_124) (And.intro @md_125 (And.intro @md_126 @md_127)))) (And.intro (And.intro (And.intro @md_128 @md_129) (And.intro @md_130 (And.intro @md_131 @md_132))) (And.intro (And.intro @md_133 @md_134) (And.intro @md_135 (And.intro @md_136 @md_137))))) (And.intro (And.intro (And.intro (And.intro @md_138 @md_139) (And.intro @md_140 (And.intro @md_141 @md_142))) (And.intro (And.intro @md_143 @md_144) (And.intro @md_145 (And.intro @md_146 @md_147)))) (And.intro (And.intro (And.intro @md_148 @md_149) (And.intro @md_150 (And.intro @md_151 @md_152))) (And.intro (And.intro @md_153 @md_154) (And.intro @md_155 (And.intro @md_156 @md_157)))))))) (And.intro (And.intro (And.intro (And.intro (And.intro (And.intro (And.intro @tr_3 @tr_4) (And.intro @tr_5 @tr_6)) (And.intro (And.intro @tr_7 @tr_8) (And.intro @tr_9 (And.intro @tr_10 @tr_11)))) (And.intro (And.intro (And.intro @tr_12 @tr_13) (And.intro @tr_14 (And.intro @tr_15 @tr_16))) (And.intro (And.intro @tr_17 @tr_18) (And.intro @tr_19 (And.intro @tr_20 @tr_21))))) (And.intro (And.intro (And.intro (And.intro @tr_22 @tr_23) (And.intro @tr_24 @tr_25)) (And.intro (And.intro @tr_26 @tr_27) (And.intro @tr_28 (And.intro @tr_29 @tr_30)))) (And.intro (And.intro (And.intro @tr_31 @tr_32) (And.intro @tr_33 (And.intro @tr_34 @tr_35))) (And.intro (And.intro @tr_36 @tr_37) (And.intro @tr_38 (And.intro @tr_39 @tr_40)))))) (And.intro (And.intro (And.intro (And.intro (And.intro @tr_41 @tr_42) (And.intro @tr_43 @tr_44)) (And.intro (And.intro @tr_45 @tr_46) (And.intro @tr_47 (And.intro @tr_48 @tr_49)))) (And.intro (And.intro (And.intro @tr_50 @tr_51) (And.intro @tr_52 (And.intro @tr_53 @tr_54))) (And.intro (And.intro @tr_55 @tr_56) (And.intro @tr_57 (And.intro @tr_58 @tr_59))))) (And.intro (And.intro (And.intro (And.intro @tr_60 @tr_61) (And.intro @tr_62 (And.intro @tr_63 @tr_64))) (And.intro (And.intro @tr_65 @tr_66) (And.intro @tr_67 (And.intro @tr_68 @tr_69)))) (And.intro (And.intro (And.intro @tr_70 @tr_71) (And.intro @tr_72 (And.intro @tr_73 @tr_74))) (And.intro (And.intro @tr_75 @tr_76) (And.intro @tr_77 (And.intro @tr_78 @tr_79))))))) (And.intro (And.intro (And.intro (And.intro (And.intro (And.intro @tr_80 @tr_81) (And.intro @tr_82 @tr_83)) (And.intro (And.intro @tr_84 @tr_85) (And.intro @tr_86 (And.intro @tr_87 @tr_88)))) (And.intro (And.intro (And.intro @tr_89 @tr_90) (And.intro @tr_91 (And.intro @tr_92 @tr_93))) (And.intro (And.intro @tr_94 @tr_95) (And.intro @tr_96 (And.intro @tr_97 @tr_98))))) (And.intro (And.intro (And.intro (And.intro @tr_99 @tr_100) (And.intro @tr_101 (And.intro @tr_102 @tr_103))) (And.intro (And.intro @tr_104 @tr_105) (And.intro @tr_106 (And.intro @tr_107 @tr_108)))) (And.intro (And.intro (And.intro @tr_109 @tr_110) (And.intro @tr_111 (And.intro @tr_112 @tr_113))) (And.intro (And.intro @tr_114 @tr_115) (And.intro @tr_116 (And.intro @tr_117 @tr_118)))))) (And.intro (And.intro (And.intro (And.intro (And.intro @tr_119 @tr_120) (And.intro @tr_121 @tr_122)) (And.intro (And.intro @tr_123 @tr_124) (And.intro @tr_125 (And.intro @tr_126 @tr_127)))) (And.intro (And.intro (And.intro @tr_128 @tr_129) (And.intro @tr_130 (And.intro @tr_131 @tr_132))) (And.intro (And.intro @tr_133 @tr_134) (And.intro @tr_135 (And.intro @tr_136 @tr_137))))) (And.intro (And.intro (And.intro (And.intro @tr_138 @tr_139) (And.intro @tr_140 (And.intro @tr_141 @tr_142))) (And.intro (And.intro @tr_143 @tr_144) (And.intro @tr_145 (And.intro @tr_146 @tr_147)))) (And.intro (And.intro (And.intro @tr_148 @tr_149) (And.intro @tr_150 (And.intro @tr_151 @tr_152))) (And.intro (And.intro @tr_153 @tr_154) (And.intro @tr_155 (And.intro @tr_156 @tr_157))))))))) := (And.intro (And.intro (And.intro (And.intro (And.intro (And.intro (And.intro (And.intro @md_3 @md_4) (And.intro @md_5 @md_6)) (And.intro (And.intro @md_7 @md_8) (And.intro @md_9 (And.intro @md_10 @md_11)))) (And.intro (And.intro (And.intro @md_12 @md_13) (And.intro @md_14 (And.intro @md_15 @md_16))) (And.intro (And.intro @md_17 @md_18) (And.intro @md_19 (And.intro @md_20 @md_21))))) (And.intro (And.intro (And.intro (And.intro @md_22 @md_23) (And.intro @md_24 @md_25)) (And.intro (And.intro @md_26 @md_27) (And.intro @md_28 (And.intro @md_29 @md_30)))) (And.intro (And.intro (And.intro @md_31 @md_32) (And.intro @md_33 (And.intro @md_34 @md_35))) (And.intro (And.intro @md_36 @md_37) (And.intro @md_38 (And.intro @md_39 @md_40)))))) (And.intro (And.intro (And.intro (And.intro (And.intro @md_41 @md_42) (And.intro @md_43 @md_44)) (And.intro (And.intro @md_45 @md_46) (And.intro @md_47 (And.intro @md_48 @md_49)))) (And.intro (And.intro (And.intro @md_50 @md_51) (And.intro @md_52 (And.intro @md_53 @md_54))) (And.intro (And.intro @md_55 @md_56) (And.intro @md_57 (And.intro @md_58 @md_59))))) (And.intro (And.intro (And.intro (And.intro @md_60 @md_61) (And.intro @md_62 (And.intro @md_63 @md_64))) (And.intro (And.intro @md_65 @md_66) (And.intro @md_67 (And.intro @md_68 @md_69)))) (And.intro (And.intro (And.intro @md_70 @md_71) (And.intro @md_72 (And.intro @md_73 @md_74))) (And.intro (And.intro @md_75 @md_76) (And.intro @md_77 (And.intro @md_78 @md_79))))))) (And.intro (And.intro (And.intro (And.intro (And.intro (And.intro @md_80 @md_81) (And.intro @md_82 @md_83)) (And.intro (And.intro @md_84 @md_85) (And.intro @md_86 (And.intro @md_87 @md_88)))) (And.intro (And.intro (And.intro @md_89 @md_90) (And.intro @md_91 (And.intro @md_92 @md_93))) (And.intro (And.intro @md_94 @md_95) (And.intro @md_96 (And.intro @md_97 @md_98))))) (And.intro (And.intro (And.intro (And.intro @md_99 @md_100) (And.intro @md_101 (And.intro @md_102 @md_103))) (And.intro (And.intro @md_104 @md_105) (And.intro @md_106 (And.intro @md_107 @md_108)))) (And.intro (And.intro (And.intro @md_109 @md_110) (And.intro @md_111 (And.intro @md_112 @md_113))) (And.intro (And.intro @md_114 @md_115) (And.intro @md_116 (And.intro @md_117 @md_118)))))) (And.intro (And.intro (And.intro (And.intro (And.intro @md_119 @md_120) (And.intro @md_121 @md_122)) (And.intro (And.intro @md_123 @md_124) (And.intro @md_125 (And.intro @md_126 @md_127)))) (And.intro (And.intro (And.intro @md_128 @md_129) (And.intro @md_130 (And.intro @md_131 @md_132))) (And.intro (And.intro @md_133 @md_134) (And.intro @md_135 (And.intro @md_136 @md_137))))) (And.intro (And.intro (And.intro (And.intro @md_138 @md_139) (And.intro @md_140 (And.intro @md_141 @md_142))) (And.intro (And.intro @md_143 @md_144) (And.intro @md_145 (And.intro @md_146 @md_147)))) (And.intro (And.intro (And.intro @md_148 @md_149) (And.intro @md_150 (And.intro @md_151 @md_152))) (And.intro (And.intro @md_153 @md_154) (And.intro @md_155 (And.intro @md_156 @md_157)))))))) (And.intro (And.intro (And.intro (And.intro (And.intro (And.intro (And.intro @tr_3 @tr_4) (And.intro @tr_5 @tr_6)) (And.intro (And.intro @tr_7 @tr_8) (And.intro @tr_9 (And.intro @tr_10 @tr_11)))) (And.intro (And.intro (And.intro @tr_12 @tr_13) (And.intro @tr_14 (And.intro @tr_15 @tr_16))) (And.intro (And.intro @tr_17 @tr_18) (And.intro @tr_19 (And.intro @tr_20 @tr_21))))) (And.intro (And.intro (And.intro (And.intro @tr_22 @tr_23) (And.intro @tr_24 @tr_25)) (And.intro (And.intro @tr_26 @tr_27) (And.intro @tr_28 (And.intro @tr_29 @tr_30)))) (And.intro (And.intro (And.intro @tr_31 @tr_32) (And.intro @tr_33 (And.intro @tr_34 @tr_35))) (And.intro (And.intro @tr_36 @tr_37) (And.intro @tr_38 (And.intro @tr_39 @tr_40)))))) (And.intro (And.intro (And.intro (And.intro (And.intro @tr_41 @tr_42) (And.intro @tr_43 @tr_44)) (And.intro (And.intro @tr_45 @tr_46) (And.intro @tr_47 (And.intro @tr_48 @tr_49)))) (And.intro (And.intro (And.intro @tr_50 @tr_51) (And.intro @tr_52 (And.intro @tr_53 @tr_54))) (And.intro (And.intro @tr_55 @tr_56) (And.intro @tr_57 (And.intro @tr_58 @tr_59))))) (And.intro (And.intro (And.intro (And.intro @tr_60 @tr_61) (And.intro @tr_62 (And.intro @tr_63 @tr_64))) (And.intro (And.intro @tr_65 @tr_66) (And.intro @tr_67 (And.intro @tr_68 @tr_69)))) (And.intro (And.intro (And.intro @tr_70 @tr_71) (And.intro @tr_72 (And.intro @tr_73 @tr_74))) (And.intro (And.intro @tr_75 @tr_76) (And.intro @tr_77 (And.intro @tr_78 @tr_79))))))) (And.intro (And.intro (And.intro (And.intro (And.intro (And.intro @tr_80 @tr_81) (And.intro @tr_82 @tr_83)) (And.intro (And.intro @tr_84 @tr_85) (And.intro @tr_86 (And.intro @tr_87 @tr_88)))) (And.intro (And.intro (And.intro @tr_89 @tr_90) (And.intro @tr_91 (And.intro @tr_92 @tr_93))) (And.intro (And.intro @tr_94 @tr_95) (And.intro @tr_96 (And.intro @tr_97 @tr_98))))) (And.intro (And.intro (And.intro (And.intro @tr_99 @tr_100) (And.intro @tr_101 (And.intro @tr_102 @tr_103))) (And.intro (And.intro @tr_104 @tr_105) (And.intro @tr_106 (And.intro @tr_107 @tr_108)))) (And.intro (And.intro (And.intro @tr_109 @tr_110) (And.intro @tr_111 (And.intro @tr_112 @tr_113))) (And.intro (And.intro @tr_114 @tr_115) (And.intro @tr_116 (And.intro @tr_117 @tr_118)))))) (And.intro (And.intro (And.intro (And.intro (And.intro @tr_119 @tr_120) (And.intro @tr_121 @tr_122)) (And.intro (And.intro @tr_123 @tr_124) (And.intro @tr_125 (And.intro @tr_126 @tr_127)))) (And.intro (And.intro (And.intro @tr_128 @tr_129) (And.intro @tr_130 (And.intro @tr_131 @tr_132))) (And.intro (And.intro @tr_133 @tr_134) (And.intro @tr_135 (And.intro @tr_136 @tr_137))))) (And.intro (And.intro (And.intro (And.intro @tr_138 @tr_139) (And.intro @tr_140 (And.intro @tr_141 @tr_142))) (And.intro (And.intro @tr_143 @tr_144) (And.intro @tr_145 (And.intro @tr_146 @tr_147)))) (And.intro (And.intro (And.intro @tr_148 @tr_149) (And.intro @tr_150 (And.intro @tr_151 @tr_152))) (And.intro (And.intro @tr_153 @tr_154) (And.intro @tr_155 (And.intro @tr_156 @tr_157)))))))))
theorem TIS : type_of% (And.intro (And.intro (And.intro (And.intro (And.intro @ti3 (And.intro @ti4 @ti22)) (And.intro (And.intro @sl22 @ti24) (And.intro @is24 @ti26))) (And.intro (And.intro @sl26 (And.intro @ti28 @is28)) (And.intro (And.intro @ti34 @sl34) (And.intro @ti39 @sl39)))) (And.intro (And.intro (And.intro @ti41 (And.intro @is41 @ti45)) (And.intro (And.intro @is45 @ti48) (And.intro @sl48 @ti49))) (And.intro (And.intro (And.intro @sl49 @ti51) (And.intro @is51 @ti54)) (And.intro (And.intro @sl54 @ti56) (And.intro @sl56 @ti58))))) (And.intro (And.intro (And.intro (And.intro @sl58 (And.intro @ti60 @is60)) (And.intro (And.intro @ti70 @sl70) (And.intro @ti78 @sl78))) (And.intro (And.intro @ti80 (And.intro @is80 @ti82)) (And.intro (And.intro @is82 @ti93) (And.intro @is93 @ti103)))) (And.intro (And.intro (And.intro @sl103 (And.intro @ti110 @is110)) (And.intro (And.intro @ti112 @is112) (And.intro @ti114 @is114))) (And.intro (And.intro (And.intro @ti116 @is116) (And.intro @ti122 @is122)) (And.intro (And.intro @ti132 @is132) (And.intro @ti153 @is153)))))) := (And.intro (And.intro (And.intro (And.intro (And.intro @ti3 (And.intro @ti4 @ti22)) (And.intro (And.intro @sl22 @ti24) (And.intro @is24 @ti26))) (And.intro (And.intro @sl26 (And.intro @ti28 @is28)) (And.intro (And.intro @ti34 @sl34) (And.intro @ti39 @sl39)))) (And.intro (And.intro (And.intro @ti41 (And.intro @is41 @ti45)) (And.intro (And.intro @is45 @ti48) (And.intro @sl48 @ti49))) (And.intro (And.intro (And.intro @sl49 @ti51) (And.intro @is51 @ti54)) (And.intro (And.intro @sl54 @ti56) (And.intro @sl56 @ti58))))) (And.intro (And.intro (And.intro (And.intro @sl58 (And.intro @ti60 @is60)) (And.intro (And.intro @ti70 @sl70) (And.intro @ti78 @sl78))) (And.intro (And.intro @ti80 (And.intro @is80 @ti82)) (And.intro (And.intro @is82 @ti93) (And.intro @is93 @ti103)))) (And.intro (And.intro (And.intro @sl103 (And.intro @ti110 @is110)) (And.intro (And.intro @ti112 @is112) (And.intro @ti114 @is114))) (And.intro (And.intro (And.intro @ti116 @is116) (And.intro @ti122 @is122)) (And.intro (And.intro @ti132 @is132) (And.intro @ti153 @is153))))))
end Go.Proofs.Ytbajieiodabdgaa.Flat
