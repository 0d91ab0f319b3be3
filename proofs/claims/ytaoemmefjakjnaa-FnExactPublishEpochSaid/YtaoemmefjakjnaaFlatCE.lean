/-
The program's functions, and how they are reckoned with: tables.
-/
import Derived.Test.YtaoemmefjakjnaaFlatM5
import Derived.Test.YtaoemmefjakjnaaProg
import Derived.KernelRfl
set_option linter.unusedVariables false
set_option linter.unusedSimpArgs false
namespace Go.Proofs.Ytaoemmefjakjnaa.Flat
def keepT : Nat → Nat → List Nat
  | 6, 4 => [0, 6, 7]
  | 8, 2 => [0, 5, 6, 7]
  | 10, 3 => [1, 5, 8, 9, 10]
  | 14, 5 => [0, 1, 5]
  | 16, 5 => [0, 1, 5]
  | 18, 3 => [0, 3, 4]
  | 19, 3 => [0, 3, 4]
  | 20, 3 => [0, 3, 4]
  | 21, 4 => [0, 1, 5]
  | 22, 4 => [0, 1, 5]
  | 23, 4 => [0, 1, 5]
  | 24, 2 => [0, 1, 5]
  | 25, 2 => [0, 1, 5]
  | 26, 2 => [0, 1, 5]
  | 27, 2 => [0, 1, 5]
  | 28, 3 => [0, 3, 4]
  | 29, 4 => [0, 3, 4, 5]
  | 31, 7 => [4, 5]
  | 32, 8 => [0, 2, 3]
  | 34, 3 => [3, 7, 8, 9]
  | 37, 2 => [0, 1, 7, 8]
  | 41, 2 => [0, 3]
  | 42, 3 => [0, 3, 4]
  | 50, 2 => [0, 1, 5]
  | 51, 2 => [0, 1, 5]
  | 52, 2 => [0, 1, 5]
  | 54, 3 => [0, 3, 4]
  | 55, 3 => [0, 2, 3, 4]
  | 63, 2 => [0, 5, 6, 7]
  | 68, 3 => [1, 2, 3, 4]
  | 73, 2 => [0, 1, 5]
  | 78, 3 => [3, 7, 8, 9]
  | 80, 7 => [0, 4, 5, 6, 7, 21, 22, 23]
  | 80, 3 => [0, 4, 5, 6]
  | 84, 5 => [0, 1, 5]
  | 87, 2 => [0, 3]
  | 88, 2 => [1, 3]
  | 89, 3 => [1, 2, 3, 4]
  | 90, 3 => [0, 3, 4]
  | 91, 4 => [0, 1, 5]
  | 95, 3 => [2, 3, 14, 15, 16]
  | 96, 2 => [0, 1, 7, 8]
  | 99, 2 => [0, 1, 5]
  | 100, 15 => [5, 6, 9]
  | 100, 10 => [0, 5, 6, 7, 8]
  | 100, 7 => [0, 5, 6, 7]
  | 104, 3 => [3, 7, 8, 9]
  | 112, 3 => [1, 2, 5]
  | 113, 4 => [1, 3]
  | 115, 2 => [0, 1, 7, 8]
  | _, _ => []
def planT : Nat → Nat → List (Qt × Nat)
  | 8, 4 => [(.no, 0), (.no, 1), (.no, 2), (.no, 3), (.no, 4), (.no, 5), (.no, 6), (.no, 7), (.no, 8), (.no, 9), (.no, 10), (.no, 11), (.no, 12), (.no, 13), (.no, 14), (.no, 15), (.no, 16), (.no, 17), (.no, 18), (.no, 19), (.no, 20), (.no, 21), (.no, 22), (.no, 23), (.no, 24), (.no, 25), (.no, 26), (.no, 27), (.no, 28)]
  | 17, 4 => [(.no, 0), (.no, 2), (.quiet, 1), (.no, 3), (.no, 4), (.no, 5), (.no, 6)]
  | 21, 6 => [(.no, 0), (.no, 1), (.no, 2), (.no, 3), (.no, 4), (.no, 5), (.no, 6), (.no, 7), (.no, 8), (.no, 9)]
  | 22, 6 => [(.no, 0), (.no, 1), (.no, 2), (.no, 3), (.no, 4), (.no, 5), (.no, 6), (.no, 7), (.no, 8), (.no, 9)]
  | 23, 6 => [(.no, 0), (.no, 1), (.no, 2), (.no, 3), (.no, 4), (.no, 5), (.no, 6), (.no, 7), (.no, 8), (.no, 9)]
  | 32, 9 => [(.no, 0), (.no, 1), (.no, 2), (.quiet, 3), (.soft true [3, 38, 39], 4), (.no, 5), (.no, 6), (.no, 7)]
  | 35, 1 => [(.no, 0), (.no, 1), (.no, 2), (.no, 3), (.no, 5), (.no, 6), (.no, 8), (.no, 9), (.soft true [1, 3, 4, 5, 6, 8, 9, 11, 12], 4), (.soft true [1, 3, 4, 5, 6, 11, 12], 7), (.quiet, 10), (.no, 11), (.no, 12)]
  | 41, 4 => [(.no, 0), (.no, 1), (.no, 2), (.no, 3), (.no, 4), (.no, 5), (.no, 6), (.no, 7), (.no, 8), (.no, 9), (.no, 10), (.no, 11), (.no, 12), (.no, 13), (.no, 14), (.no, 15), (.no, 16), (.no, 17), (.no, 18), (.no, 19), (.no, 20), (.no, 21), (.no, 22), (.no, 23), (.no, 24), (.no, 25), (.no, 26), (.no, 27), (.no, 28), (.no, 29), (.no, 30), (.no, 31), (.no, 32), (.no, 33), (.no, 34), (.no, 35), (.no, 36), (.no, 37)]
  | 43, 1 => [(.no, 0), (.no, 1), (.no, 2), (.no, 3), (.no, 5), (.no, 6), (.no, 8), (.no, 9), (.soft true [1, 3, 4, 5, 6, 8, 9, 11, 12], 4), (.soft true [1, 3, 4, 5, 6, 11, 12], 7), (.quiet, 10), (.no, 11), (.no, 12)]
  | 55, 5 => [(.no, 0), (.no, 1), (.no, 2), (.quiet, 3), (.soft true [3, 15, 16], 4), (.no, 5), (.no, 6), (.no, 7)]
  | 58, 10 => [(.no, 0), (.no, 1), (.no, 2), (.quiet, 3), (.soft true [3, 27, 28], 4), (.no, 5), (.no, 6), (.no, 7)]
  | 60, 1 => [(.no, 0), (.no, 1), (.no, 2), (.no, 3), (.quiet, 4), (.no, 5), (.no, 6)]
  | 63, 4 => [(.no, 0), (.no, 1), (.no, 2), (.no, 3), (.no, 4), (.no, 5), (.no, 6), (.no, 7), (.no, 8), (.no, 9), (.no, 10), (.no, 11), (.no, 12), (.no, 13), (.no, 15), (.no, 16), (.quiet, 14), (.no, 17), (.no, 18)]
  | 74, 2 => [(.no, 0), (.no, 1), (.no, 2), (.no, 3), (.no, 4), (.no, 5), (.no, 6), (.no, 7), (.no, 8), (.no, 9), (.no, 10), (.no, 11), (.no, 12)]
  | 74, 3 => [(.no, 0), (.no, 1), (.no, 2), (.no, 3), (.no, 4), (.no, 5), (.no, 6), (.no, 7), (.no, 8), (.no, 9)]
  | 74, 4 => [(.no, 0), (.no, 1), (.no, 2), (.no, 3), (.no, 4), (.no, 5), (.no, 6), (.no, 7), (.no, 8), (.no, 9), (.no, 10), (.no, 11), (.no, 12), (.no, 13), (.no, 14)]
  | 76, 9 => [(.no, 0), (.no, 1), (.no, 2), (.no, 3), (.quiet, 4), (.no, 5), (.no, 6)]
  | 76, 11 => [(.no, 0), (.no, 1), (.no, 2), (.no, 3), (.quiet, 4), (.no, 5), (.no, 6)]
  | 87, 4 => [(.no, 0), (.no, 1), (.no, 2), (.no, 3), (.no, 4), (.no, 5), (.no, 6), (.no, 7), (.no, 8), (.no, 9), (.no, 10), (.no, 11), (.no, 12), (.no, 13), (.no, 14), (.no, 15), (.no, 16), (.no, 17), (.no, 18), (.no, 19), (.no, 20), (.no, 21), (.no, 22), (.no, 24), (.no, 25), (.no, 26), (.no, 27), (.no, 28), (.quiet, 23), (.no, 29), (.no, 30)]
  | 89, 5 => [(.no, 0), (.no, 1), (.no, 2), (.no, 3), (.no, 4), (.no, 5), (.no, 6), (.quiet, 7), (.soft true [3, 19, 20], 8), (.no, 9), (.no, 10), (.no, 11)]
  | 91, 6 => [(.no, 0), (.no, 1), (.no, 2), (.no, 3), (.no, 4), (.no, 5), (.no, 6), (.no, 7), (.no, 8), (.no, 9)]
  | 93, 1 => [(.no, 0), (.no, 2), (.quiet, 1), (.no, 3), (.no, 4), (.no, 5), (.no, 6)]
  | 94, 1 => [(.no, 0), (.no, 2), (.quiet, 1), (.no, 3), (.no, 4), (.no, 5), (.no, 6)]
  | 95, 5 => [(.no, 0), (.no, 1), (.no, 2), (.quiet, 3), (.soft true [3, 20, 21], 4), (.no, 5), (.no, 6), (.no, 7)]
  | 108, 12 => [(.no, 0), (.no, 1), (.no, 2), (.no, 3), (.no, 4), (.quiet, 5), (.no, 6), (.no, 7), (.no, 8), (.no, 9), (.no, 10), (.no, 11), (.no, 12), (.no, 13), (.no, 14), (.no, 15), (.no, 16), (.no, 17), (.no, 18), (.no, 19)]
  | 116, 13 => [(.no, 0), (.no, 1), (.no, 2), (.no, 3), (.no, 4), (.no, 5), (.no, 6), (.no, 7), (.no, 8), (.no, 9), (.quiet, 10), (.no, 11), (.no, 12), (.no, 13)]
  | _, _ => []
def okT : List Nat := [3, 4, 5, 6, 7, 8, 9, 10, 11, 12, 13, 14, 15, 16, 17, 18, 19, 20, 21, 22, 23, 24, 25, 26, 27, 28, 29, 30, 31, 33, 34, 35, 36, 37, 38, 39, 40, 41, 42, 43, 44, 45, 46, 47, 48, 49, 50, 51, 52, 53, 54, 55, 56, 57, 58, 59, 60, 61, 62, 63, 64, 65, 66, 67, 68, 69, 70, 71, 72, 73, 74, 75, 76, 77, 78, 79, 80, 81, 82, 83, 84, 85, 86, 87, 88, 89, 90, 91, 92, 93, 94, 95, 96, 97, 98, 99, 100, 101, 102, 103, 104, 105, 106, 107, 108, 109, 110, 111, 112, 113, 114, 115, 116, 117]
def treeT : List Nat := [7, 17, 18, 20, 34, 35, 42, 43, 44, 46, 60, 68, 69, 70, 78, 89, 90, 95]
def mdT : Nat → List Mode
  | 24 => [.«mut», .ro]
  | 25 => [.«mut», .ro]
  | 26 => [.«mut», .ro]
  | 28 => [.give]
  | 29 => [.io]
  | 30 => [.io, .ro]
  | 32 => [.io]
  | 33 => [.io]
  | 50 => [.«mut», .ro]
  | 53 => [.io, .ro]
  | 54 => [.io]
  | 55 => [.io]
  | 56 => [.io, .ro]
  | 57 => [.io]
  | 58 => [.io]
  | 59 => [.io]
  | 74 => [.io]
  | 75 => [.io, .ro]
  | 76 => [.io, .ro]
  | 77 => [.io]
  | _ => []
noncomputable def E : Env := { P := Go.Proofs.Try.prog, md := mdT, keep := keepT, plan := planT, ok := fun f => okT.contains f, tree := fun f => treeT.contains f }
theorem mixed : E.P.follows .mixedOrders = true := by kernel_rfl
/-- One function's check. -/
def good1 (P : Program) (plan : Nat → Nat → List (Qt × Nat)) (md : Nat → List Mode) (f : Nat) : Bool :=
  match P.funcs[f]? with
  | some fn => (match fn.body with | some c => codeOK (plan f) c && codePin (mutSlots 0 (md f)) c | none => true) && !(fn.name == "runtime.NumGoroutine")
  | none => true
theorem good1_ok {E : Env} {l : List Nat} (ho : ∀ f, E.ok f = true → f ∈ l) (h : l.all (good1 E.P E.plan E.md) = true) : Sound E := by
  intro f hf fn c hfn hc
  have h1 := List.all_eq_true.1 h f (ho f hf)
  simp -implicitDefEqProofs only [good1, hfn, hc, Bool.and_eq_true, Bool.not_eq_true', beq_eq_false_iff_ne, ne_eq] at h1
  exact ⟨h1.1.1, h1.2, h1.1.2⟩
theorem sound : Sound E := good1_ok (l := okT) (fun f hf => by simpa [E] using hf) (by kernel_rfl)
abbrev noExt : Nat → Option (List AV → List (List AV) → Option (AV × List (List AV))) := fun _ => none
theorem hext : ∀ f g, noExt f = some g → ∀ args ios ret fin, g args ios = some (ret, fin) → Enters E.P f ∧ CallOK E.P (E.md f) f args ios ret fin := fun f g hg => by simp [noExt] at hg
abbrev tBool : Nat := 4
theorem tagBool : tagOf E.P 4 = .bool := by kernel_rfl
theorem one_ne : (1 = 0) = False := by simp
theorem ti3 : tiOf E.P 3 = some { tag := Tag.int IntKind.i64, agg := false, size := 1, bytes := 8, zero := some (Value.int IntKind.i64 0), elem := 0, fields := [], eqs := none } := by kernel_rfl
theorem ti4 : tiOf E.P 4 = some { tag := Tag.bool, agg := false, size := 1, bytes := 1, zero := some (Value.bool false), elem := 0, fields := [], eqs := none } := by kernel_rfl
theorem ti5 : tiOf E.P 5 = some { tag := Tag.int IntKind.u8, agg := false, size := 1, bytes := 1, zero := some (Value.int IntKind.u8 0), elem := 0, fields := [], eqs := none } := by kernel_rfl
theorem ti22 : tiOf E.P 22 = some { tag := Tag.slice, agg := false, size := 1, bytes := 24, zero := some (Value.slice none 0 0), elem := 5, fields := [], eqs := none } := by kernel_rfl
theorem sl22 : isSliceT E.P 22 = true := by kernel_rfl
theorem ti24 : tiOf E.P 24 = some { tag := Tag.slice, agg := false, size := 1, bytes := 24, zero := some (Value.slice none 0 0), elem := 39, fields := [], eqs := none } := by kernel_rfl
theorem sl24 : isSliceT E.P 24 = true := by kernel_rfl
theorem ti25 : tiOf E.P 25 = some { tag := Tag.slice, agg := false, size := 1, bytes := 24, zero := some (Value.slice none 0 0), elem := 79, fields := [], eqs := none } := by kernel_rfl
theorem sl25 : isSliceT E.P 25 = true := by kernel_rfl
theorem ti26 : tiOf E.P 26 = some { tag := Tag.slice, agg := false, size := 1, bytes := 24, zero := some (Value.slice none 0 0), elem := 86, fields := [], eqs := none } := by kernel_rfl
theorem sl26 : isSliceT E.P 26 = true := by kernel_rfl
theorem ti37 : tiOf E.P 37 = some { tag := Tag.struct, agg := true, size := 2, bytes := 32, zero := some (Value.agg #[Value.int IntKind.i64 0, Value.slice none 0 0]), elem := 0, fields := [(0, 1, false), (1, 1, false)], eqs := none } := by kernel_rfl
theorem is37 : isStructT E.P 37 = true := by kernel_rfl
theorem ti39 : tiOf E.P 39 = some { tag := Tag.struct, agg := true, size := 5, bytes := 72, zero := some (Value.agg #[Value.int IntKind.i64 0, Value.int IntKind.i64 0, Value.slice none 0 0, Value.int IntKind.i64 0, Value.slice none 0 0]), elem := 0, fields := [(0, 1, false), (1, 1, false), (2, 1, false), (3, 2, true)], eqs := none } := by kernel_rfl
theorem is39 : isStructT E.P 39 = true := by kernel_rfl
theorem ti40 : tiOf E.P 40 = some { tag := Tag.slice, agg := false, size := 1, bytes := 24, zero := some (Value.slice none 0 0), elem := 70, fields := [], eqs := none } := by kernel_rfl
theorem sl40 : isSliceT E.P 40 = true := by kernel_rfl
theorem ti41 : tiOf E.P 41 = some { tag := Tag.slice, agg := false, size := 1, bytes := 24, zero := some (Value.slice none 0 0), elem := 81, fields := [], eqs := none } := by kernel_rfl
theorem sl41 : isSliceT E.P 41 = true := by kernel_rfl
theorem ti42 : tiOf E.P 42 = some { tag := Tag.slice, agg := false, size := 1, bytes := 24, zero := some (Value.slice none 0 0), elem := 76, fields := [], eqs := none } := by kernel_rfl
theorem sl42 : isSliceT E.P 42 = true := by kernel_rfl
theorem ti68 : tiOf E.P 68 = some { tag := Tag.struct, agg := true, size := 2, bytes := 32, zero := some (Value.agg #[Value.int IntKind.i64 0, Value.slice none 0 0]), elem := 0, fields := [(0, 1, false), (1, 1, false)], eqs := none } := by kernel_rfl
theorem is68 : isStructT E.P 68 = true := by kernel_rfl
theorem ti70 : tiOf E.P 70 = some { tag := Tag.struct, agg := true, size := 5, bytes := 72, zero := some (Value.agg #[Value.int IntKind.i64 0, Value.int IntKind.i64 0, Value.slice none 0 0, Value.int IntKind.i64 0, Value.slice none 0 0]), elem := 0, fields := [(0, 1, false), (1, 1, false), (2, 1, false), (3, 2, true)], eqs := none } := by kernel_rfl
theorem is70 : isStructT E.P 70 = true := by kernel_rfl
theorem ti72 : tiOf E.P 72 = some { tag := Tag.slice, agg := false, size := 1, bytes := 24, zero := some (Value.slice none 0 0), elem := 74, fields := [], eqs := none } := by kernel_rfl
theorem sl72 : isSliceT E.P 72 = true := by kernel_rfl
theorem ti74 : tiOf E.P 74 = some { tag := Tag.struct, agg := true, size := 4, bytes := 48, zero := some (Value.agg #[Value.int IntKind.i64 0, Value.int IntKind.i64 0, Value.int IntKind.i64 0, Value.slice none 0 0]), elem := 0, fields := [(0, 1, false), (1, 1, false), (2, 1, false), (3, 1, false)], eqs := none } := by kernel_rfl
theorem is74 : isStructT E.P 74 = true := by kernel_rfl
theorem ti76 : tiOf E.P 76 = some { tag := Tag.struct, agg := true, size := 7, bytes := 72, zero := some (Value.agg #[Value.int IntKind.i64 0, Value.int IntKind.i64 0, Value.int IntKind.i64 0, Value.int IntKind.i64 0, Value.int IntKind.i64 0, Value.int IntKind.i64 0, Value.slice none 0 0]), elem := 0, fields := [(0, 1, false), (1, 1, false), (2, 1, false), (3, 4, true)], eqs := none } := by kernel_rfl
theorem is76 : isStructT E.P 76 = true := by kernel_rfl
theorem ti79 : tiOf E.P 79 = some { tag := Tag.struct, agg := true, size := 2, bytes := 16, zero := some (Value.agg #[Value.int IntKind.i64 0, Value.int IntKind.i64 0]), elem := 0, fields := [(0, 1, false), (1, 1, false)], eqs := some [0, 0] } := by kernel_rfl
theorem is79 : isStructT E.P 79 = true := by kernel_rfl
theorem ti81 : tiOf E.P 81 = some { tag := Tag.struct, agg := true, size := 2, bytes := 16, zero := some (Value.agg #[Value.int IntKind.i64 0, Value.int IntKind.i64 0]), elem := 0, fields := [(0, 1, false), (1, 1, false)], eqs := some [0, 0] } := by kernel_rfl
theorem is81 : isStructT E.P 81 = true := by kernel_rfl
theorem ti82 : tiOf E.P 82 = some { tag := Tag.slice, agg := false, size := 1, bytes := 24, zero := some (Value.slice none 0 0), elem := 84, fields := [], eqs := none } := by kernel_rfl
theorem sl82 : isSliceT E.P 82 = true := by kernel_rfl
theorem ti84 : tiOf E.P 84 = some { tag := Tag.struct, agg := true, size := 4, bytes := 48, zero := some (Value.agg #[Value.int IntKind.i64 0, Value.int IntKind.i64 0, Value.int IntKind.i64 0, Value.slice none 0 0]), elem := 0, fields := [(0, 1, false), (1, 1, false), (2, 1, false), (3, 1, false)], eqs := none } := by kernel_rfl
theorem is84 : isStructT E.P 84 = true := by kernel_rfl
theorem ti86 : tiOf E.P 86 = some { tag := Tag.struct, agg := true, size := 7, bytes := 72, zero := some (Value.agg #[Value.int IntKind.i64 0, Value.int IntKind.i64 0, Value.int IntKind.i64 0, Value.int IntKind.i64 0, Value.int IntKind.i64 0, Value.int IntKind.i64 0, Value.slice none 0 0]), elem := 0, fields := [(0, 1, false), (1, 1, false), (2, 1, false), (3, 4, true)], eqs := none } := by kernel_rfl
theorem is86 : isStructT E.P 86 = true := by kernel_rfl
theorem ti93 : tiOf E.P 93 = some { tag := Tag.struct, agg := true, size := 3, bytes := 40, zero := some (Value.agg #[Value.slice none 0 0, Value.int IntKind.i64 0, Value.int IntKind.i64 0]), elem := 0, fields := [(0, 1, false), (1, 1, false), (2, 1, false)], eqs := none } := by kernel_rfl
theorem is93 : isStructT E.P 93 = true := by kernel_rfl
theorem ti97 : tiOf E.P 97 = some { tag := Tag.slice, agg := false, size := 1, bytes := 24, zero := some (Value.slice none 0 0), elem := 3, fields := [], eqs := none } := by kernel_rfl
theorem sl97 : isSliceT E.P 97 = true := by kernel_rfl
theorem ti113 : tiOf E.P 113 = some { tag := Tag.array 6, agg := true, size := 6, bytes := 6, zero := some (Value.agg #[Value.bool false, Value.bool false, Value.bool false, Value.bool false, Value.bool false, Value.bool false]), elem := 4, fields := [], eqs := none } := by kernel_rfl
theorem na113 : isSliceT E.P 113 = false := by kernel_rfl
theorem ar113 : isArrayT E.P 113 = some 6 := by kernel_rfl
theorem ns113 : isStructT E.P 113 = false := by kernel_rfl
theorem ti130 : tiOf E.P 130 = some { tag := Tag.slice, agg := false, size := 1, bytes := 24, zero := some (Value.slice none 0 0), elem := 4, fields := [], eqs := none } := by kernel_rfl
theorem sl130 : isSliceT E.P 130 = true := by kernel_rfl
theorem plan_8_4 : E.plan 8 4 = [(.no, 0), (.no, 1), (.no, 2), (.no, 3), (.no, 4), (.no, 5), (.no, 6), (.no, 7), (.no, 8), (.no, 9), (.no, 10), (.no, 11), (.no, 12), (.no, 13), (.no, 14), (.no, 15), (.no, 16), (.no, 17), (.no, 18), (.no, 19), (.no, 20), (.no, 21), (.no, 22), (.no, 23), (.no, 24), (.no, 25), (.no, 26), (.no, 27), (.no, 28)] := rfl
theorem plan_17_4 : E.plan 17 4 = [(.no, 0), (.no, 2), (.quiet, 1), (.no, 3), (.no, 4), (.no, 5), (.no, 6)] := rfl
theorem plan_21_6 : E.plan 21 6 = [(.no, 0), (.no, 1), (.no, 2), (.no, 3), (.no, 4), (.no, 5), (.no, 6), (.no, 7), (.no, 8), (.no, 9)] := rfl
theorem plan_22_6 : E.plan 22 6 = [(.no, 0), (.no, 1), (.no, 2), (.no, 3), (.no, 4), (.no, 5), (.no, 6), (.no, 7), (.no, 8), (.no, 9)] := rfl
theorem plan_23_6 : E.plan 23 6 = [(.no, 0), (.no, 1), (.no, 2), (.no, 3), (.no, 4), (.no, 5), (.no, 6), (.no, 7), (.no, 8), (.no, 9)] := rfl
theorem plan_32_9 : E.plan 32 9 = [(.no, 0), (.no, 1), (.no, 2), (.quiet, 3), (.soft true [3, 38, 39], 4), (.no, 5), (.no, 6), (.no, 7)] := rfl
theorem plan_35_1 : E.plan 35 1 = [(.no, 0), (.no, 1), (.no, 2), (.no, 3), (.no, 5), (.no, 6), (.no, 8), (.no, 9), (.soft true [1, 3, 4, 5, 6, 8, 9, 11, 12], 4), (.soft true [1, 3, 4, 5, 6, 11, 12], 7), (.quiet, 10), (.no, 11), (.no, 12)] := rfl
theorem plan_41_4 : E.plan 41 4 = [(.no, 0), (.no, 1), (.no, 2), (.no, 3), (.no, 4), (.no, 5), (.no, 6), (.no, 7), (.no, 8), (.no, 9), (.no, 10), (.no, 11), (.no, 12), (.no, 13), (.no, 14), (.no, 15), (.no, 16), (.no, 17), (.no, 18), (.no, 19), (.no, 20), (.no, 21), (.no, 22), (.no, 23), (.no, 24), (.no, 25), (.no, 26), (.no, 27), (.no, 28), (.no, 29), (.no, 30), (.no, 31), (.no, 32), (.no, 33), (.no, 34), (.no, 35), (.no, 36), (.no, 37)] := rfl
theorem plan_43_1 : E.plan 43 1 = [(.no, 0), (.no, 1), (.no, 2), (.no, 3), (.no, 5), (.no, 6), (.no, 8), (.no, 9), (.soft true [1, 3, 4, 5, 6, 8, 9, 11, 12], 4), (.soft true [1, 3, 4, 5, 6, 11, 12], 7), (.quiet, 10), (.no, 11), (.no, 12)] := rfl
theorem plan_55_5 : E.plan 55 5 = [(.no, 0), (.no, 1), (.no, 2), (.quiet, 3), (.soft true [3, 15, 16], 4), (.no, 5), (.no, 6), (.no, 7)] := rfl
theorem plan_58_10 : E.plan 58 10 = [(.no, 0), (.no, 1), (.no, 2), (.quiet, 3), (.soft true [3, 27, 28], 4), (.no, 5), (.no, 6), (.no, 7)] := rfl
theorem plan_60_1 : E.plan 60 1 = [(.no, 0), (.no, 1), (.no, 2), (.no, 3), (.quiet, 4), (.no, 5), (.no, 6)] := rfl
theorem plan_63_4 : E.plan 63 4 = [(.no, 0), (.no, 1), (.no, 2), (.no, 3), (.no, 4), (.no, 5), (.no, 6), (.no, 7), (.no, 8), (.no, 9), (.no, 10), (.no, 11), (.no, 12), (.no, 13), (.no, 15), (.no, 16), (.quiet, 14), (.no, 17), (.no, 18)] := rfl
theorem plan_74_2 : E.plan 74 2 = [(.no, 0), (.no, 1), (.no, 2), (.no, 3), (.no, 4), (.no, 5), (.no, 6), (.no, 7), (.no, 8), (.no, 9), (.no, 10), (.no, 11), (.no, 12)] := rfl
theorem plan_74_3 : E.plan 74 3 = [(.no, 0), (.no, 1), (.no, 2), (.no, 3), (.no, 4), (.no, 5), (.no, 6), (.no, 7), (.no, 8), (.no, 9)] := rfl
theorem plan_74_4 : E.plan 74 4 = [(.no, 0), (.no, 1), (.no, 2), (.no, 3), (.no, 4), (.no, 5), (.no, 6), (.no, 7), (.no, 8), (.no, 9), (.no, 10), (.no, 11), (.no, 12), (.no, 13), (.no, 14)] := rfl
theorem plan_76_9 : E.plan 76 9 = [(.no, 0), (.no, 1), (.no, 2), (.no, 3), (.quiet, 4), (.no, 5), (.no, 6)] := rfl
theorem plan_76_11 : E.plan 76 11 = [(.no, 0), (.no, 1), (.no, 2), (.no, 3), (.quiet, 4), (.no, 5), (.no, 6)] := rfl
theorem plan_87_4 : E.plan 87 4 = [(.no, 0), (.no, 1), (.no, 2), (.no, 3), (.no, 4), (.no, 5), (.no, 6), (.no, 7), (.no, 8), (.no, 9), (.no, 10), (.no, 11), (.no, 12), (.no, 13), (.no, 14), (.no, 15), (.no, 16), (.no, 17), (.no, 18), (.no, 19), (.no, 20), (.no, 21), (.no, 22), (.no, 24), (.no, 25), (.no, 26), (.no, 27), (.no, 28), (.quiet, 23), (.no, 29), (.no, 30)] := rfl
theorem plan_89_5 : E.plan 89 5 = [(.no, 0), (.no, 1), (.no, 2), (.no, 3), (.no, 4), (.no, 5), (.no, 6), (.quiet, 7), (.soft true [3, 19, 20], 8), (.no, 9), (.no, 10), (.no, 11)] := rfl
theorem plan_91_6 : E.plan 91 6 = [(.no, 0), (.no, 1), (.no, 2), (.no, 3), (.no, 4), (.no, 5), (.no, 6), (.no, 7), (.no, 8), (.no, 9)] := rfl
theorem plan_93_1 : E.plan 93 1 = [(.no, 0), (.no, 2), (.quiet, 1), (.no, 3), (.no, 4), (.no, 5), (.no, 6)] := rfl
theorem plan_94_1 : E.plan 94 1 = [(.no, 0), (.no, 2), (.quiet, 1), (.no, 3), (.no, 4), (.no, 5), (.no, 6)] := rfl
theorem plan_95_5 : E.plan 95 5 = [(.no, 0), (.no, 1), (.no, 2), (.quiet, 3), (.soft true [3, 20, 21], 4), (.no, 5), (.no, 6), (.no, 7)] := rfl
theorem plan_108_12 : E.plan 108 12 = [(.no, 0), (.no, 1), (.no, 2), (.no, 3), (.no, 4), (.quiet, 5), (.no, 6), (.no, 7), (.no, 8), (.no, 9), (.no, 10), (.no, 11), (.no, 12), (.no, 13), (.no, 14), (.no, 15), (.no, 16), (.no, 17), (.no, 18), (.no, 19)] := rfl
theorem plan_116_13 : E.plan 116 13 = [(.no, 0), (.no, 1), (.no, 2), (.no, 3), (.no, 4), (.no, 5), (.no, 6), (.no, 7), (.no, 8), (.no, 9), (.quiet, 10), (.no, 11), (.no, 12), (.no, 13)] := rfl
theorem keep_6_4 : E.keep 6 4 = [0, 6, 7] := rfl
theorem keep_8_2 : E.keep 8 2 = [0, 5, 6, 7] := rfl
theorem keep_10_3 : E.keep 10 3 = [1, 5, 8, 9, 10] := rfl
theorem keep_14_5 : E.keep 14 5 = [0, 1, 5] := rfl
theorem keep_16_5 : E.keep 16 5 = [0, 1, 5] := rfl
theorem keep_18_3 : E.keep 18 3 = [0, 3, 4] := rfl
theorem keep_19_3 : E.keep 19 3 = [0, 3, 4] := rfl
theorem keep_20_3 : E.keep 20 3 = [0, 3, 4] := rfl
theorem keep_21_4 : E.keep 21 4 = [0, 1, 5] := rfl
theorem keep_22_4 : E.keep 22 4 = [0, 1, 5] := rfl
theorem keep_23_4 : E.keep 23 4 = [0, 1, 5] := rfl
theorem keep_24_2 : E.keep 24 2 = [0, 1, 5] := rfl
theorem keep_25_2 : E.keep 25 2 = [0, 1, 5] := rfl
theorem keep_26_2 : E.keep 26 2 = [0, 1, 5] := rfl
theorem keep_27_2 : E.keep 27 2 = [0, 1, 5] := rfl
theorem keep_28_3 : E.keep 28 3 = [0, 3, 4] := rfl
theorem keep_29_4 : E.keep 29 4 = [0, 3, 4, 5] := rfl
theorem keep_31_7 : E.keep 31 7 = [4, 5] := rfl
theorem keep_32_8 : E.keep 32 8 = [0, 2, 3] := rfl
theorem keep_34_3 : E.keep 34 3 = [3, 7, 8, 9] := rfl
theorem keep_37_2 : E.keep 37 2 = [0, 1, 7, 8] := rfl
theorem keep_41_2 : E.keep 41 2 = [0, 3] := rfl
theorem keep_42_3 : E.keep 42 3 = [0, 3, 4] := rfl
theorem keep_50_2 : E.keep 50 2 = [0, 1, 5] := rfl
theorem keep_51_2 : E.keep 51 2 = [0, 1, 5] := rfl
theorem keep_52_2 : E.keep 52 2 = [0, 1, 5] := rfl
theorem keep_54_3 : E.keep 54 3 = [0, 3, 4] := rfl
theorem keep_55_3 : E.keep 55 3 = [0, 2, 3, 4] := rfl
theorem keep_63_2 : E.keep 63 2 = [0, 5, 6, 7] := rfl
theorem keep_68_3 : E.keep 68 3 = [1, 2, 3, 4] := rfl
theorem keep_73_2 : E.keep 73 2 = [0, 1, 5] := rfl
theorem keep_78_3 : E.keep 78 3 = [3, 7, 8, 9] := rfl
theorem keep_80_7 : E.keep 80 7 = [0, 4, 5, 6, 7, 21, 22, 23] := rfl
theorem keep_80_3 : E.keep 80 3 = [0, 4, 5, 6] := rfl
theorem keep_84_5 : E.keep 84 5 = [0, 1, 5] := rfl
theorem keep_87_2 : E.keep 87 2 = [0, 3] := rfl
theorem keep_88_2 : E.keep 88 2 = [1, 3] := rfl
theorem keep_89_3 : E.keep 89 3 = [1, 2, 3, 4] := rfl
theorem keep_90_3 : E.keep 90 3 = [0, 3, 4] := rfl
theorem keep_91_4 : E.keep 91 4 = [0, 1, 5] := rfl
theorem keep_95_3 : E.keep 95 3 = [2, 3, 14, 15, 16] := rfl
theorem keep_96_2 : E.keep 96 2 = [0, 1, 7, 8] := rfl
theorem keep_99_2 : E.keep 99 2 = [0, 1, 5] := rfl
theorem keep_100_15 : E.keep 100 15 = [5, 6, 9] := rfl
theorem keep_100_10 : E.keep 100 10 = [0, 5, 6, 7, 8] := rfl
theorem keep_100_7 : E.keep 100 7 = [0, 5, 6, 7] := rfl
theorem keep_104_3 : E.keep 104 3 = [3, 7, 8, 9] := rfl
theorem keep_112_3 : E.keep 112 3 = [1, 2, 5] := rfl
theorem keep_113_4 : E.keep 113 4 = [1, 3] := rfl
theorem keep_115_2 : E.keep 115 2 = [0, 1, 7, 8] := rfl
theorem md_3 : E.md 3 = [] := rfl
theorem md_4 : E.md 4 = [] := rfl
theorem md_5 : E.md 5 = [] := rfl
theorem md_6 : E.md 6 = [] := rfl
theorem md_7 : E.md 7 = [] := rfl
theorem md_8 : E.md 8 = [] := rfl
theorem md_9 : E.md 9 = [] := rfl
theorem md_10 : E.md 10 = [] := rfl
theorem md_11 : E.md 11 = [] := rfl
theorem md_12 : E.md 12 = [] := rfl
theorem md_13 : E.md 13 = [] := rfl
theorem md_14 : E.md 14 = [] := rfl
theorem md_15 : E.md 15 = [] := rfl
theorem md_16 : E.md 16 = [] := rfl
theorem md_17 : E.md 17 = [] := rfl
theorem md_18 : E.md 18 = [] := rfl
theorem md_19 : E.md 19 = [] := rfl
theorem md_20 : E.md 20 = [] := rfl
theorem md_21 : E.md 21 = [] := rfl
theorem md_22 : E.md 22 = [] := rfl
theorem md_23 : E.md 23 = [] := rfl
theorem md_24 : E.md 24 = [.«mut», .ro] := rfl
theorem md_25 : E.md 25 = [.«mut», .ro] := rfl
theorem md_26 : E.md 26 = [.«mut», .ro] := rfl
theorem md_27 : E.md 27 = [] := rfl
theorem md_28 : E.md 28 = [.give] := rfl
theorem md_29 : E.md 29 = [.io] := rfl
theorem md_30 : E.md 30 = [.io, .ro] := rfl
theorem md_31 : E.md 31 = [] := rfl
theorem md_32 : E.md 32 = [.io] := rfl
theorem md_33 : E.md 33 = [.io] := rfl
theorem md_34 : E.md 34 = [] := rfl
theorem md_35 : E.md 35 = [] := rfl
theorem md_36 : E.md 36 = [] := rfl
theorem md_37 : E.md 37 = [] := rfl
theorem md_38 : E.md 38 = [] := rfl
theorem md_39 : E.md 39 = [] := rfl
theorem md_40 : E.md 40 = [] := rfl
theorem md_41 : E.md 41 = [] := rfl
theorem md_42 : E.md 42 = [] := rfl
theorem md_43 : E.md 43 = [] := rfl
theorem md_44 : E.md 44 = [] := rfl
theorem md_45 : E.md 45 = [] := rfl
theorem md_46 : E.md 46 = [] := rfl
theorem md_47 : E.md 47 = [] := rfl
theorem md_48 : E.md 48 = [] := rfl
theorem md_49 : E.md 49 = [] := rfl
theorem md_50 : E.md 50 = [.«mut», .ro] := rfl
theorem md_51 : E.md 51 = [] := rfl
theorem md_52 : E.md 52 = [] := rfl
theorem md_53 : E.md 53 = [.io, .ro] := rfl
theorem md_54 : E.md 54 = [.io] := rfl
theorem md_55 : E.md 55 = [.io] := rfl
theorem md_56 : E.md 56 = [.io, .ro] := rfl
theorem md_57 : E.md 57 = [.io] := rfl
theorem md_58 : E.md 58 = [.io] := rfl
theorem md_59 : E.md 59 = [.io] := rfl
theorem md_60 : E.md 60 = [] := rfl
theorem md_61 : E.md 61 = [] := rfl
theorem md_62 : E.md 62 = [] := rfl
theorem md_63 : E.md 63 = [] := rfl
theorem md_64 : E.md 64 = [] := rfl
theorem md_65 : E.md 65 = [] := rfl
theorem md_66 : E.md 66 = [] := rfl
theorem md_67 : E.md 67 = [] := rfl
theorem md_68 : E.md 68 = [] := rfl
theorem md_69 : E.md 69 = [] := rfl
theorem md_70 : E.md 70 = [] := rfl
theorem md_71 : E.md 71 = [] := rfl
theorem md_72 : E.md 72 = [] := rfl
theorem md_73 : E.md 73 = [] := rfl
theorem md_74 : E.md 74 = [.io] := rfl
theorem md_75 : E.md 75 = [.io, .ro] := rfl
theorem md_76 : E.md 76 = [.io, .ro] := rfl
theorem md_77 : E.md 77 = [.io] := rfl
theorem md_78 : E.md 78 = [] := rfl
theorem md_79 : E.md 79 = [] := rfl
theorem md_80 : E.md 80 = [] := rfl
theorem md_81 : E.md 81 = [] := rfl
theorem md_82 : E.md 82 = [] := rfl
theorem md_83 : E.md 83 = [] := rfl
theorem md_84 : E.md 84 = [] := rfl
theorem md_85 : E.md 85 = [] := rfl
theorem md_86 : E.md 86 = [] := rfl
theorem md_87 : E.md 87 = [] := rfl
theorem md_88 : E.md 88 = [] := rfl
theorem md_89 : E.md 89 = [] := rfl
theorem md_90 : E.md 90 = [] := rfl
theorem md_91 : E.md 91 = [] := rfl
theorem md_92 : E.md 92 = [] := rfl
theorem md_93 : E.md 93 = [] := rfl
theorem md_94 : E.md 94 = [] := rfl
theorem md_95 : E.md 95 = [] := rfl
theorem md_96 : E.md 96 = [] := rfl
theorem md_97 : E.md 97 = [] := rfl
theorem md_98 : E.md 98 = [] := rfl
theorem md_99 : E.md 99 = [] := rfl
theorem md_100 : E.md 100 = [] := rfl
theorem md_101 : E.md 101 = [] := rfl
theorem md_102 : E.md 102 = [] := rfl
theorem md_103 : E.md 103 = [] := rfl
theorem md_104 : E.md 104 = [] := rfl
theorem md_105 : E.md 105 = [] := rfl
theorem md_106 : E.md 106 = [] := rfl
theorem md_107 : E.md 107 = [] := rfl
theorem md_108 : E.md 108 = [] := rfl
theorem md_109 : E.md 109 = [] := rfl
theorem md_110 : E.md 110 = [] := rfl
theorem md_111 : E.md 111 = [] := rfl
theorem md_112 : E.md 112 = [] := rfl
theorem md_113 : E.md 113 = [] := rfl
theorem md_114 : E.md 114 = [] := rfl
theorem md_115 : E.md 115 = [] := rfl
theorem md_116 : E.md 116 = [] := rfl
theorem md_117 : E.md 117 = [] := rfl
theorem tr_3 : E.tree 3 = false := rfl
theorem tr_4 : E.tree 4 = false := rfl
theorem tr_5 : E.tree 5 = false := rfl
theorem tr_6 : E.tree 6 = false := rfl
theorem tr_7 : E.tree 7 = true := rfl
theorem tr_8 : E.tree 8 = false := rfl
theorem tr_9 : E.tree 9 = false := rfl
theorem tr_10 : E.tree 10 = false := rfl
theorem tr_11 : E.tree 11 = false := rfl
theorem tr_12 : E.tree 12 = false := rfl
theorem tr_13 : E.tree 13 = false := rfl
theorem tr_14 : E.tree 14 = false := rfl
theorem tr_15 : E.tree 15 = false := rfl
theorem tr_16 : E.tree 16 = false := rfl
theorem tr_17 : E.tree 17 = true := rfl
theorem tr_18 : E.tree 18 = true := rfl
theorem tr_19 : E.tree 19 = false := rfl
theorem tr_20 : E.tree 20 = true := rfl
theorem tr_21 : E.tree 21 = false := rfl
theorem tr_22 : E.tree 22 = false := rfl
theorem tr_23 : E.tree 23 = false := rfl
theorem tr_24 : E.tree 24 = false := rfl
theorem tr_25 : E.tree 25 = false := rfl
theorem tr_26 : E.tree 26 = false := rfl
theorem tr_27 : E.tree 27 = false := rfl
theorem tr_28 : E.tree 28 = false := rfl
theorem tr_29 : E.tree 29 = false := rfl
theorem tr_30 : E.tree 30 = false := rfl
theorem tr_31 : E.tree 31 = false := rfl
theorem tr_32 : E.tree 32 = false := rfl
theorem tr_33 : E.tree 33 = false := rfl
theorem tr_34 : E.tree 34 = true := rfl
theorem tr_35 : E.tree 35 = true := rfl
theorem tr_36 : E.tree 36 = false := rfl
theorem tr_37 : E.tree 37 = false := rfl
theorem tr_38 : E.tree 38 = false := rfl
theorem tr_39 : E.tree 39 = false := rfl
theorem tr_40 : E.tree 40 = false := rfl
theorem tr_41 : E.tree 41 = false := rfl
theorem tr_42 : E.tree 42 = true := rfl
theorem tr_43 : E.tree 43 = true := rfl
theorem tr_44 : E.tree 44 = true := rfl
theorem tr_45 : E.tree 45 = false := rfl
theorem tr_46 : E.tree 46 = true := rfl
theorem tr_47 : E.tree 47 = false := rfl
theorem tr_48 : E.tree 48 = false := rfl
theorem tr_49 : E.tree 49 = false := rfl
theorem tr_50 : E.tree 50 = false := rfl
theorem tr_51 : E.tree 51 = false := rfl
theorem tr_52 : E.tree 52 = false := rfl
theorem tr_53 : E.tree 53 = false := rfl
theorem tr_54 : E.tree 54 = false := rfl
theorem tr_55 : E.tree 55 = false := rfl
theorem tr_56 : E.tree 56 = false := rfl
theorem tr_57 : E.tree 57 = false := rfl
theorem tr_58 : E.tree 58 = false := rfl
theorem tr_59 : E.tree 59 = false := rfl
theorem tr_60 : E.tree 60 = true := rfl
theorem tr_61 : E.tree 61 = false := rfl
theorem tr_62 : E.tree 62 = false := rfl
theorem tr_63 : E.tree 63 = false := rfl
theorem tr_64 : E.tree 64 = false := rfl
theorem tr_65 : E.tree 65 = false := rfl
theorem tr_66 : E.tree 66 = false := rfl
theorem tr_67 : E.tree 67 = false := rfl
theorem tr_68 : E.tree 68 = true := rfl
theorem tr_69 : E.tree 69 = true := rfl
theorem tr_70 : E.tree 70 = true := rfl
theorem tr_71 : E.tree 71 = false := rfl
theorem tr_72 : E.tree 72 = false := rfl
theorem tr_73 : E.tree 73 = false := rfl
theorem tr_74 : E.tree 74 = false := rfl
theorem tr_75 : E.tree 75 = false := rfl
theorem tr_76 : E.tree 76 = false := rfl
theorem tr_77 : E.tree 77 = false := rfl
theorem tr_78 : E.tree 78 = true := rfl
theorem tr_79 : E.tree 79 = false := rfl
theorem tr_80 : E.tree 80 = false := rfl
theorem tr_81 : E.tree 81 = false := rfl
theorem tr_82 : E.tree 82 = false := rfl
theorem tr_83 : E.tree 83 = false := rfl
theorem tr_84 : E.tree 84 = false := rfl
theorem tr_85 : E.tree 85 = false := rfl
theorem tr_86 : E.tree 86 = false := rfl
theorem tr_87 : E.tree 87 = false := rfl
theorem tr_88 : E.tree 88 = false := rfl
theorem tr_89 : E.tree 89 = true := rfl
theorem tr_90 : E.tree 90 = true := rfl
theorem tr_91 : E.tree 91 = false := rfl
theorem tr_92 : E.tree 92 = false := rfl
theorem tr_93 : E.tree 93 = false := rfl
theorem tr_94 : E.tree 94 = false := rfl
theorem tr_95 : E.tree 95 = true := rfl
theorem tr_96 : E.tree 96 = false := rfl
theorem tr_97 : E.tree 97 = false := rfl
theorem tr_98 : E.tree 98 = false := rfl
theorem tr_99 : E.tree 99 = false := rfl
theorem tr_100 : E.tree 100 = false := rfl
theorem tr_101 : E.tree 101 = false := rfl
theorem tr_102 : E.tree 102 = false := rfl
theorem tr_103 : E.tree 103 = false := rfl
theorem tr_104 : E.tree 104 = false := rfl
theorem tr_105 : E.tree 105 = false := rfl
theorem tr_106 : E.tree 106 = false := rfl
theorem tr_107 : E.tree 107 = false := rfl
theorem tr_108 : E.tree 108 = false := rfl
theorem tr_109 : E.tree 109 = false := rfl
theorem tr_110 : E.tree 110 = false := rfl
theorem tr_111 : E.tree 111 = false := rfl
theorem tr_112 : E.tree 112 = false := rfl
theorem tr_113 : E.tree 113 = false := rfl
theorem tr_114 : E.tree 114 = false := rfl
theorem tr_115 : E.tree 115 = false := rfl
theorem tr_116 : E.tree 116 = false := rfl
theorem tr_117 : E.tree 117 = false := rfl
theorem MDS : type_of% (And.intro (And.intro (And.intro (And.intro (And.intro (And.intro (And.intro @md_3 (And.intro @md_4 @md_5)) (And.intro (And.intro @md_6 @md_7) (And.intro @md_8 @md_9))) (And.intro (And.intro @md_10 (And.intro @md_11 @md_12)) (And.intro (And.intro @md_13 @md_14) (And.intro @md_15 @md_16)))) (And.intro (And.intro (And.intro @md_17 (And.intro @md_18 @md_19)) (And.intro (And.intro @md_20 @md_21) (And.intro @md_22 @md_23))) (And.intro (And.intro @md_24 (And.intro @md_25 @md_26)) (And.intro (And.intro @md_27 @md_28) (And.intro @md_29 @md_30))))) (And.intro (And.intro (And.intro (And.intro @md_31 (And.intro @md_32 @md_33)) (And.intro (And.intro @md_34 @md_35) (And.intro @md_36 @md_37))) (And.intro (And.intro @md_38 (And.intro @md_39 @md_40)) (And.intro (And.intro @md_41 @md_42) (And.intro @md_43 @md_44)))) (And.intro (And.intro (And.intro @md_45 (And.intro @md_46 @md_47)) (And.intro (And.intro @md_48 @md_49) (And.intro @md_50 @md_51))) (And.intro (And.intro (And.intro @md_52 @md_53) (And.intro @md_54 @md_55)) (And.intro (And.intro @md_56 @md_57) (And.intro @md_58 @md_59)))))) (And.intro (And.intro (And.intro (And.intro (And.intro @md_60 (And.intro @md_61 @md_62)) (And.intro (And.intro @md_63 @md_64) (And.intro @md_65 @md_66))) (And.intro (And.intro @md_67 (And.intro @md_68 @md_69)) (And.intro (And.intro @md_70 @md_71) (And.intro @md_72 @md_73)))) (And.intro (And.intro (And.intro @md_74 (And.intro @md_75 @md_76)) (And.intro (And.intro @md_77 @md_78) (And.intro @md_79 @md_80))) (And.intro (And.intro (And.intro @md_81 @md_82) (And.intro @md_83 @md_84)) (And.intro (And.intro @md_85 @md_86) (And.intro @md_87 @md_88))))) (And.intro (And.intro (And.intro (And.intro @md_89 (And.intro @md_90 @md_91)) (And.intro (And.intro @md_92 @md_93) (And.intro @md_94 @md_95))) (And.intro (And.intro @md_96 (And.intro @md_97 @md_98)) (And.intro (And.intro @md_99 @md_100) (And.intro @md_101 @md_102)))) (And.intro (And.intro (And.intro @md_103 (And.intro @md_104 @md_105)) (And.intro (And.intro @md_106 @md_107) (And.intro @md_108 @md_109))) (And.intro (And.intro (And.intro @md_110 @md_111) (And.intro @md_112 @md_113)) (And.intro (And.intro @md_114 @md_115) (And.intro @md_116 @md_117))))))) (And.intro (And.intro (And.intro (And.intro (And.intro (And.intro @tr_3 (And.intro @tr_4 @tr_5)) (And.intro (And.intro @tr_6 @tr_7) (And.intro @tr_8 @tr_9))) (And.intro (And.intro @tr_10 (And.intro @tr_11 @tr_12)) (And.intro (And.intro @tr_13 @tr_14) (And.intro @tr_15 @tr_16)))) (And.intro (And.intro (And.intro @tr_17 (And.intro @tr_18 @tr_19)) (And.intro (And.intro @tr_20 @tr_21) (And.intro @tr_22 @tr_23))) (And.intro (And.intro @tr_24 (And.intro @tr_25 @tr_26)) (And.intro (And.intro @tr_27 @tr_28) (And.intro @tr_29 @tr_30))))) (And.intro (And.intro (And.intro (And.intro @tr_31 (And.intro @tr_32 @tr_33)) (And.intro (And.intro @tr_34 @tr_35) (And.intro @tr_36 @tr_37))) (And.intro (And.intro @tr_38 (And.intro @tr_39 @tr_40)) (And.intro (And.intro @tr_41 @tr_42) (And.intro @tr_43 @tr_44)))) (And.intro (And.intro (And.intro @tr_45 (And.intro @tr_46 @tr_47)) (And.intro (And.intro @tr_48 @tr_49) (And.intro @tr_50 @tr_51))) (And.intro (And.intro (And.intro @tr_52 @tr_53) (And.intro @tr_54 @tr_55)) (And.intro (And.intro @tr_56 @tr_57) (And.intro @tr_58 @tr_59)))))) (And.intro (And.intro (And.intro (And.intro (And.intro @tr_60 (And.intro @tr_61 @tr_62)) (And.intro (And.intro @tr_63 @tr_64) (And.intro @tr_65 @tr_66))) (And.intro (And.intro @tr_67 (And.intro @tr_68 @tr_69)) (And.intro (And.intro @tr_70 @tr_71) (And.intro @tr_72 @tr_73)))) (And.intro (And.intro (And.intro @tr_74 (And.intro @tr_75 @tr_76)) (And.intro (And.intro @tr_77 @tr_78) (And.intro @tr_79 @tr_80))) (And.intro (And.intro (And.intro @tr_81 @tr_82) (And.intro @tr_83 @tr_84)) (And.intro (And.intro @tr_85 @tr_86) (And.intro @tr_87 @tr_88))))) (And.intro (And.intro (And.intro (And.intro @tr_89 (And.intro @tr_90 @tr_91)) (And.intro (And.intro @tr_92 @tr_93) (And.intro @tr_94 @tr_95))) (And.intro (And.intro @tr_96 (And.intro @tr_97 @tr_98)) (And.intro (And.intro @tr_99 @tr_100) (And.intro @tr_101 @tr_102)))) (And.intro (And.intro (And.intro @tr_103 (And.intro @tr_104 @tr_105)) (And.intro (And.intro @tr_106 @tr_107) (And.intro @tr_108 @tr_109))) (And.intro (And.intro (And.intro @tr_110 @tr_111) (And.intro @tr_112 @tr_113)) (And.intro (And.intro @tr_114 @tr_115) (And.intro @tr_116 @tr_117)))))))) := (And.intro (And.intro (And.intro (And.intro (And.intro (And.intro (And.intro @md_3 (And.intro @md_4 @md_5)) (And.intro (And.intro @md_6 @md_7) (And.intro @md_8 @md_9))) (And.intro (And.intro @md_10 (And.intro @md_11 @md_12)) (And.intro (And.intro @md_13 @md_14) (And.intro @md_15 @md_16)))) (And.intro (And.intro (And.intro @md_17 (And.intro @md_18 @md_19)) (And.intro (And.intro @md_20 @md_21) (And.intro @md_22 @md_23))) (And.intro (And.intro @md_24 (And.intro @md_25 @md_26)) (And.intro (And.intro @md_27 @md_28) (And.intro @md_29 @md_30))))) (And.intro (And.intro (And.intro (And.intro @md_31 (And.intro @md_32 @md_33)) (And.intro (And.intro @md_34 @md_35) (And.intro @md_36 @md_37))) (And.intro (And.intro @md_38 (And.intro @md_39 @md_40)) (And.intro (And.intro @md_41 @md_42) (And.intro @md_43 @md_44)))) (And.intro (And.intro (And.intro @md_45 (And.intro @md_46 @md_47)) (And.intro (And.intro @md_48 @md_49) (And.intro @md_50 @md_51))) (And.intro (And.intro (And.intro @md_52 @md_53) (And.intro @md_54 @md_55)) (And.intro (And.intro @md_56 @md_57) (And.intro @md_58 @md_59)))))) (And.intro (And.intro (And.intro (And.intro (And.intro @md_60 (And.intro @md_61 @md_62)) (And.intro (And.intro @md_63 @md_64) (And.intro @md_65 @md_66))) (And.intro (And.intro @md_67 (And.intro @md_68 @md_69)) (And.intro (And.intro @md_70 @md_71) (And.intro @md_72 @md_73)))) (And.intro (And.intro (And.intro @md_74 (And.intro @md_75 @md_76)) (And.intro (And.intro @md_77 @md_78) (And.intro @md_79 @md_80))) (And.intro (And.intro (And.intro @md_81 @md_82) (And.intro @md_83 @md_84)) (And.intro (And.intro @md_85 @md_86) (And.intro @md_87 @md_88))))) (And.intro (And.intro (And.intro (And.intro @md_89 (And.intro @md_90 @md_91)) (And.intro (And.intro @md_92 @md_93) (And.intro @md_94 @md_95))) (And.intro (And.intro @md_96 (And.intro @md_97 @md_98)) (And.intro (And.intro @md_99 @md_100) (And.intro @md_101 @md_102)))) (And.intro (And.intro (And.intro @md_103 (And.intro @md_104 @md_105)) (And.intro (And.intro @md_106 @md_107) (And.intro @md_108 @md_109))) (And.intro (And.intro (And.intro @md_110 @md_111) (And.intro @md_112 @md_113)) (And.intro (And.intro @md_114 @md_115) (And.intro @md_116 @md_117))))))) (And.intro (And.intro (And.intro (And.intro (And.intro (And.intro @tr_3 (And.intro @tr_4 @tr_5)) (And.intro (And.intro @tr_6 @tr_7) (And.intro @tr_8 @tr_9))) (And.intro (And.intro @tr_10 (And.intro @tr_11 @tr_12)) (And.intro (And.intro @tr_13 @tr_14) (And.intro @tr_15 @tr_16)))) (And.intro (And.intro (And.intro @tr_17 (And.intro @tr_18 @tr_19)) (And.intro (And.intro @tr_20 @tr_21) (And.intro @tr_22 @tr_23))) (And.intro (And.intro @tr_24 (And.intro @tr_25 @tr_26)) (And.intro (And.intro @tr_27 @tr_28) (And.intro @tr_29 @tr_30))))) (And.intro (And.intro (And.intro (And.intro @tr_31 (And.intro @tr_32 @tr_33)) (And.intro (And.intro @tr_34 @tr_35) (And.intro @tr_36 @tr_37))) (And.intro (And.intro @tr_38 (And.intro @tr_39 @tr_40)) (And.intro (And.intro @tr_41 @tr_42) (And.intro @tr_43 @tr_44)))) (And.intro (And.intro (And.intro @tr_45 (And.intro @tr_46 @tr_47)) (And.intro (And.intro @tr_48 @tr_49) (And.intro @tr_50 @tr_51))) (And.intro (And.intro (And.intro @tr_52 @tr_53) (And.intro @tr_54 @tr_55)) (And.intro (And.intro @tr_56 @tr_57) (And.intro @tr_58 @tr_59)))))) (And.intro (And.intro (And.intro (And.intro (And.intro @tr_60 (And.intro @tr_61 @tr_62)) (And.intro (And.intro @tr_63 @tr_64) (And.intro @tr_65 @tr_66))) (And.intro (And.intro @tr_67 (And.intro @tr_68 @tr_69)) (And.intro (And.intro @tr_70 @tr_71) (And.intro @tr_72 @tr_73)))) (And.intro (And.intro (And.intro @tr_74 (And.intro @tr_75 @tr_76)) (And.intro (And.intro @tr_77 @tr_78) (And.intro @tr_79 @tr_80))) (And.intro (And.intro (And.intro @tr_81 @tr_82) (And.intro @tr_83 @tr_84)) (And.intro (And.intro @tr_85 @tr_86) (And.intro @tr_87 @tr_88))))) (And.intro (And.intro (And.intro (And.intro @tr_89 (And.intro @tr_90 @tr_91)) (And.intro (And.intro @tr_92 @tr_93) (And.intro @tr_94 @tr_95))) (And.intro (And.intro @tr_96 (And.intro @tr_97 @tr_98)) (And.intro (And.intro @tr_99 @tr_100) (And.intro @tr_101 @tr_102)))) (And.intro (And.intro (And.intro @tr_103 (And.intro @tr_104 @tr_105)) (And.intro (And.intro @tr_106 @tr_107) (And.intro @tr_108 @tr_109))) (And.intro (And.intro (And.intro @tr_110 @tr_111) (And.intro @tr_112 @tr_113)) (And.intro (And.intro @tr_114 @tr_115) (And.intro @tr_116 @tr_117))))))))
theorem TIS : type_of% (And.intro (And.intro (And.intro (And.intro (And.intro @ti3 (And.intro @ti4 @ti5)) (And.intro @ti22 (And.intro @sl22 @ti24))) (And.intro (And.intro @sl24 (And.intro @ti25 @sl25)) (And.intro @ti26 (And.intro @sl26 @ti37)))) (And.intro (And.intro (And.intro @is37 (And.intro @ti39 @is39)) (And.intro @ti40 (And.intro @sl40 @ti41))) (And.intro (And.intro @sl41 (And.intro @ti42 @sl42)) (And.intro (And.intro @ti68 @is68) (And.intro @ti70 @is70))))) (And.intro (And.intro (And.intro (And.intro @ti72 (And.intro @sl72 @ti74)) (And.intro @is74 (And.intro @ti76 @is76))) (And.intro (And.intro @ti79 (And.intro @is79 @ti81)) (And.intro (And.intro @is81 @ti82) (And.intro @sl82 @ti84)))) (And.intro (And.intro (And.intro @is84 (And.intro @ti86 @is86)) (And.intro @ti93 (And.intro @is93 @ti97))) (And.intro (And.intro @sl97 (And.intro @ti113 @na113)) (And.intro (And.intro @ar113 @ns113) (And.intro @ti130 @sl130)))))) := (And.intro (And.intro (And.intro (And.intro (And.intro @ti3 (And.intro @ti4 @ti5)) (And.intro @ti22 (And.intro @sl22 @ti24))) (And.intro (And.intro @sl24 (And.intro @ti25 @sl25)) (And.intro @ti26 (And.intro @sl26 @ti37)))) (And.intro (And.intro (And.intro @is37 (And.intro @ti39 @is39)) (And.intro @ti40 (And.intro @sl40 @ti41))) (And.intro (And.intro @sl41 (And.intro @ti42 @sl42)) (And.intro (And.intro @ti68 @is68) (And.intro @ti70 @is70))))) (And.intro (And.intro (And.intro (And.intro @ti72 (And.intro @sl72 @ti74)) (And.intro @is74 (And.intro @ti76 @is76))) (And.intro (And.intro @ti79 (And.intro @is79 @ti81)) (And.intro (And.intro @is81 @ti82) (And.intro @sl82 @ti84)))) (And.intro (And.intro (And.intro @is84 (And.intro @ti86 @is86)) (And.intro @ti93 (And.intro @is93 @ti97))) (And.intro (And.intro @sl97 (And.intro @ti113 @na113)) (And.intro (And.intro @ar113 @ns113) (And.intro @ti130 @sl130))))))
end Go.Proofs.Ytaoemmefjakjnaa.Flat
