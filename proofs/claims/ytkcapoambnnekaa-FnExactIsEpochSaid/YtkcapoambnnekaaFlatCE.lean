/-
The program's functions, and how they are reckoned with: tables.
-/
import Derived.Test.YtkcapoambnnekaaFlatM5
import Derived.Test.YtkcapoambnnekaaProg
import Derived.KernelRfl
set_option linter.unusedVariables false
set_option linter.unusedSimpArgs false
namespace Go.Proofs.Ytkcapoambnnekaa.Flat
def keepT : Nat → Nat → List Nat
  | 16, 4 => [2, 3, 5]
  | 25, 5 => [0, 1, 5]
  | 27, 3 => [0, 3, 4]
  | 29, 4 => [0, 1, 5]
  | 30, 3 => [0, 1, 5, 6]
  | 31, 3 => [1, 5, 8, 9, 10]
  | 32, 2 => [0, 1, 5]
  | 34, 2 => [1, 3]
  | 37, 3 => [1, 4, 5, 13, 14, 15]
  | 50, 2 => [0, 3]
  | 51, 2 => [0, 5, 6, 7]
  | 53, 5 => [0, 1, 5]
  | 55, 3 => [0, 3, 4]
  | 56, 3 => [0, 3, 4]
  | 58, 4 => [0, 1, 5]
  | 59, 4 => [0, 1, 5]
  | 60, 2 => [0, 1, 5]
  | 61, 2 => [0, 1, 5]
  | 62, 2 => [0, 1, 5]
  | 63, 2 => [0, 1, 5]
  | 64, 4 => [2, 3, 5]
  | 65, 4 => [1, 2, 15, 16, 17]
  | 76, 2 => [0, 1, 7, 8]
  | 80, 3 => [1, 2, 3, 4]
  | 81, 3 => [3, 7, 8, 9]
  | 82, 2 => [0, 1, 5]
  | 83, 4 => [0, 1, 5]
  | 84, 4 => [0, 1, 12, 13]
  | 90, 2 => [0, 3]
  | 92, 2 => [0, 5, 6, 7]
  | 93, 3 => [0, 3, 4]
  | 96, 3 => [3, 7, 8, 9]
  | 99, 2 => [0, 1, 5]
  | 100, 2 => [0, 1, 5]
  | 102, 5 => [0, 1, 5]
  | 104, 3 => [1, 2, 5]
  | 105, 4 => [1, 3]
  | 106, 3 => [0, 3, 4]
  | 109, 3 => [3, 7, 8, 9]
  | 111, 4 => [0, 1, 5]
  | 112, 2 => [0, 1, 7, 8]
  | 113, 3 => [1, 2, 3, 4]
  | 114, 3 => [2, 3, 14, 15, 16]
  | 115, 2 => [0, 1, 5]
  | 117, 2 => [0, 1, 5]
  | 118, 15 => [5, 6, 9]
  | 118, 10 => [0, 5, 6, 7, 8]
  | 118, 7 => [0, 5, 6, 7]
  | 120, 7 => [0, 4, 5, 6, 7, 21, 22, 23]
  | 120, 3 => [0, 4, 5, 6]
  | 122, 4 => [1, 2, 15, 16, 17]
  | 129, 2 => [0, 1, 7, 8]
  | _, _ => []
def planT : Nat → Nat → List (Bool × Nat)
  | 3, 8 => [(false, 0), (false, 2), (true, 1), (false, 3), (false, 4), (false, 5)]
  | 3, 14 => [(false, 0), (false, 1), (true, 2), (false, 3), (false, 4)]
  | 3, 16 => [(false, 0), (false, 1), (true, 2), (false, 3), (false, 4)]
  | 4, 10 => [(false, 0), (false, 1), (true, 2), (false, 3), (false, 4)]
  | 8, 10 => [(false, 0), (false, 1), (true, 2), (false, 3), (false, 4)]
  | 9, 10 => [(false, 0), (false, 1), (true, 2), (false, 3), (false, 4)]
  | 10, 8 => [(false, 0), (false, 2), (true, 1), (false, 3), (false, 4), (false, 5)]
  | 10, 14 => [(false, 0), (false, 1), (true, 2), (false, 3), (false, 4)]
  | 10, 16 => [(false, 0), (false, 1), (true, 2), (false, 3), (false, 4)]
  | 12, 10 => [(false, 0), (false, 1), (true, 2), (false, 3), (false, 4)]
  | 29, 6 => [(false, 0), (false, 1), (false, 2), (false, 3), (false, 4), (false, 5), (false, 6), (false, 7), (false, 8), (false, 9)]
  | 36, 3 => [(false, 1), (false, 2), (false, 3), (false, 4), (false, 6), (false, 7), (false, 8), (false, 9), (false, 10), (true, 0), (true, 5), (false, 11), (false, 12), (false, 13)]
  | 50, 4 => [(false, 0), (false, 1), (false, 2), (false, 3), (false, 4), (false, 5), (false, 6), (false, 7), (false, 8), (false, 9), (false, 10), (false, 11), (false, 12), (false, 13), (false, 14), (false, 15), (false, 16), (false, 17), (false, 18), (false, 19), (false, 20), (false, 21), (false, 22), (false, 23), (false, 24), (false, 25), (false, 26), (false, 27), (false, 28), (false, 29), (false, 30), (false, 31), (false, 32), (false, 33), (false, 34), (false, 35), (false, 36), (false, 37)]
  | 51, 4 => [(false, 0), (false, 1), (false, 2), (false, 3), (false, 4), (false, 5), (false, 6), (false, 7), (false, 8), (false, 9), (false, 10), (false, 11), (false, 12), (false, 13), (false, 14), (false, 15), (false, 16), (false, 17), (false, 18), (false, 19), (false, 20), (false, 21), (false, 22), (false, 23), (false, 24), (false, 25), (false, 26), (false, 27), (false, 28)]
  | 54, 4 => [(false, 0), (false, 2), (true, 1), (false, 3), (false, 4), (false, 5), (false, 6)]
  | 58, 6 => [(false, 0), (false, 1), (false, 2), (false, 3), (false, 4), (false, 5), (false, 6), (false, 7), (false, 8), (false, 9)]
  | 59, 6 => [(false, 0), (false, 1), (false, 2), (false, 3), (false, 4), (false, 5), (false, 6), (false, 7), (false, 8), (false, 9)]
  | 64, 6 => [(false, 0), (false, 1), (false, 2), (false, 3), (false, 4), (false, 5), (false, 6), (false, 7), (false, 8), (false, 9), (false, 10), (false, 11)]
  | 83, 6 => [(false, 0), (false, 1), (false, 2), (false, 3), (false, 4), (false, 5), (false, 6), (false, 7), (false, 8)]
  | 84, 6 => [(false, 0), (false, 1), (false, 2), (false, 3), (false, 4), (false, 5), (false, 6), (false, 7), (false, 8)]
  | 90, 4 => [(false, 0), (false, 1), (false, 2), (false, 3), (false, 4), (false, 5), (false, 6), (false, 7), (false, 8), (false, 9), (false, 10), (false, 11), (false, 12), (false, 13), (false, 14), (false, 15), (false, 16), (false, 17), (false, 18), (false, 19), (false, 20), (false, 21), (false, 22), (false, 24), (false, 25), (false, 26), (false, 27), (false, 28), (true, 23), (false, 29), (false, 30)]
  | 92, 4 => [(false, 0), (false, 1), (false, 2), (false, 3), (false, 4), (false, 5), (false, 6), (false, 7), (false, 8), (false, 9), (false, 10), (false, 11), (false, 12), (false, 13), (false, 15), (false, 16), (true, 14), (false, 17), (false, 18)]
  | 94, 1 => [(false, 0), (false, 1), (false, 2), (false, 3), (false, 5), (false, 6), (false, 8), (false, 9), (true, 4), (true, 7), (true, 10), (false, 11), (false, 12)]
  | 97, 1 => [(false, 0), (false, 1), (false, 2), (false, 3), (false, 5), (false, 6), (false, 8), (false, 9), (true, 4), (true, 7), (true, 10), (false, 11), (false, 12)]
  | 111, 6 => [(false, 0), (false, 1), (false, 2), (false, 3), (false, 4), (false, 5), (false, 6), (false, 7), (false, 8), (false, 9)]
  | 113, 5 => [(false, 0), (false, 1), (false, 2), (false, 3), (false, 4), (false, 5), (false, 6), (true, 7), (true, 8), (false, 9), (false, 10), (false, 11)]
  | 114, 5 => [(false, 0), (false, 1), (false, 2), (true, 3), (true, 4), (false, 5), (false, 6), (false, 7)]
  | 121, 1 => [(false, 0), (false, 1), (false, 2), (false, 3), (true, 4), (false, 5), (false, 6)]
  | 123, 13 => [(false, 0), (false, 1), (false, 2), (false, 3), (false, 4), (false, 5), (false, 6), (false, 7), (false, 8), (false, 9), (true, 10), (false, 11), (false, 12), (false, 13)]
  | 124, 12 => [(false, 0), (false, 1), (false, 2), (false, 3), (false, 4), (true, 5), (false, 6), (false, 7), (false, 8), (false, 9), (false, 10), (false, 11), (false, 12), (false, 13), (false, 14), (false, 15), (false, 16), (false, 17), (false, 18), (false, 19)]
  | _, _ => []
def okT : List Nat := [3, 4, 5, 6, 7, 8, 9, 10, 11, 12, 13, 14, 15, 16, 17, 18, 19, 20, 21, 22, 23, 24, 25, 26, 27, 28, 29, 30, 31, 32, 33, 34, 35, 36, 37, 38, 39, 40, 41, 42, 43, 44, 45, 46, 47, 48, 49, 50, 51, 52, 53, 54, 55, 56, 57, 58, 59, 60, 61, 62, 63, 64, 65, 66, 67, 68, 69, 70, 71, 72, 73, 74, 75, 76, 77, 78, 79, 80, 81, 82, 83, 84, 85, 86, 87, 88, 89, 90, 91, 92, 93, 94, 95, 96, 97, 98, 99, 100, 101, 102, 103, 104, 105, 106, 107, 108, 109, 110, 111, 112, 113, 114, 115, 116, 117, 118, 119, 120, 121, 122, 123, 124, 125, 126, 127, 128, 129]
def treeT : List Nat := []
def mdT : Nat → List Mode
  | 38 => [.«mut», .ro]
  | 60 => [.«mut», .ro]
  | 61 => [.«mut», .ro]
  | 62 => [.«mut», .ro]
  | 99 => [.«mut», .ro]
  | _ => []
noncomputable def E : Env := { P := Go.Proofs.Try.prog, md := mdT, keep := keepT, plan := planT, ok := fun f => okT.contains f, tree := fun f => treeT.contains f }
theorem mixed : E.P.follows .mixedOrders = true := by kernel_rfl
/-- One function's check. -/
def good1 (P : Program) (plan : Nat → Nat → List (Bool × Nat)) (md : Nat → List Mode) (f : Nat) : Bool :=
  match P.funcs[f]? with
  | some fn => (match fn.body with | some c => codeOK (plan f) c && codePin (mutSlots 0 (md f)) c | none => true) && !(fn.name == "runtime.NumGoroutine")
  | none => true
theorem good1_ok {E : Env} {l : List Nat} (ho : ∀ f, E.ok f = true → f ∈ l) (h : l.all (good1 E.P E.plan E.md) = true) : Sound E := by
  intro f hf fn c hfn hc
  have h1 := List.all_eq_true.1 h f (ho f hf)
  simp -implicitDefEqProofs only [good1, hfn, hc, Bool.and_eq_true, Bool.not_eq_true', beq_eq_false_iff_ne, ne_eq] at h1
  exact ⟨h1.1.1, h1.2, h1.1.2⟩
theorem sound : Sound E := good1_ok (l := okT) (fun f hf => by simpa [E] using hf) (by kernel_rfl)
abbrev noExt : Nat → Option (List AV → List (List AV) → Option (AV × List (List AV))) := fun _ => none
abbrev tBool : Nat := 4
theorem tagBool : tagOf E.P 4 = .bool := by kernel_rfl
theorem one_ne : (1 = 0) = False := by simp
theorem ti3 : tiOf E.P 3 = some { tag := Tag.int IntKind.i64, agg := false, size := 1, bytes := 8, zero := some (Value.int IntKind.i64 0), elem := 0, fields := [], eqs := none } := by kernel_rfl
theorem ti4 : tiOf E.P 4 = some { tag := Tag.bool, agg := false, size := 1, bytes := 1, zero := some (Value.bool false), elem := 0, fields := [], eqs := none } := by kernel_rfl
theorem ti22 : tiOf E.P 22 = some { tag := Tag.slice, agg := false, size := 1, bytes := 24, zero := some (Value.slice none 0 0), elem := 36, fields := [], eqs := none } := by kernel_rfl
theorem sl22 : isSliceT E.P 22 = true := by kernel_rfl
theorem ti24 : tiOf E.P 24 = some { tag := Tag.struct, agg := true, size := 2, bytes := 32, zero := some (Value.agg #[Value.int IntKind.i64 0, Value.slice none 0 0]), elem := 0, fields := [(0, 1, false), (1, 1, false)], eqs := none } := by kernel_rfl
theorem is24 : isStructT E.P 24 = true := by kernel_rfl
theorem ti27 : tiOf E.P 27 = some { tag := Tag.slice, agg := false, size := 1, bytes := 24, zero := some (Value.slice none 0 0), elem := 43, fields := [], eqs := none } := by kernel_rfl
theorem sl27 : isSliceT E.P 27 = true := by kernel_rfl
theorem ti29 : tiOf E.P 29 = some { tag := Tag.struct, agg := true, size := 2, bytes := 32, zero := some (Value.agg #[Value.int IntKind.i64 0, Value.slice none 0 0]), elem := 0, fields := [(0, 1, false), (1, 1, false)], eqs := none } := by kernel_rfl
theorem is29 : isStructT E.P 29 = true := by kernel_rfl
theorem ti32 : tiOf E.P 32 = some { tag := Tag.slice, agg := false, size := 1, bytes := 24, zero := some (Value.slice none 0 0), elem := 34, fields := [], eqs := none } := by kernel_rfl
theorem sl32 : isSliceT E.P 32 = true := by kernel_rfl
theorem ti34 : tiOf E.P 34 = some { tag := Tag.struct, agg := true, size := 4, bytes := 48, zero := some (Value.agg #[Value.int IntKind.i64 0, Value.int IntKind.i64 0, Value.int IntKind.i64 0, Value.slice none 0 0]), elem := 0, fields := [(0, 1, false), (1, 1, false), (2, 1, false), (3, 1, false)], eqs := none } := by kernel_rfl
theorem is34 : isStructT E.P 34 = true := by kernel_rfl
theorem ti36 : tiOf E.P 36 = some { tag := Tag.struct, agg := true, size := 7, bytes := 72, zero := some (Value.agg #[Value.int IntKind.i64 0, Value.int IntKind.i64 0, Value.int IntKind.i64 0, Value.int IntKind.i64 0, Value.int IntKind.i64 0, Value.int IntKind.i64 0, Value.slice none 0 0]), elem := 0, fields := [(0, 1, false), (1, 1, false), (2, 1, false), (3, 4, true)], eqs := none } := by kernel_rfl
theorem is36 : isStructT E.P 36 = true := by kernel_rfl
theorem ti39 : tiOf E.P 39 = some { tag := Tag.slice, agg := false, size := 1, bytes := 24, zero := some (Value.slice none 0 0), elem := 41, fields := [], eqs := none } := by kernel_rfl
theorem sl39 : isSliceT E.P 39 = true := by kernel_rfl
theorem ti41 : tiOf E.P 41 = some { tag := Tag.struct, agg := true, size := 4, bytes := 48, zero := some (Value.agg #[Value.int IntKind.i64 0, Value.int IntKind.i64 0, Value.int IntKind.i64 0, Value.slice none 0 0]), elem := 0, fields := [(0, 1, false), (1, 1, false), (2, 1, false), (3, 1, false)], eqs := none } := by kernel_rfl
theorem is41 : isStructT E.P 41 = true := by kernel_rfl
theorem ti43 : tiOf E.P 43 = some { tag := Tag.struct, agg := true, size := 7, bytes := 72, zero := some (Value.agg #[Value.int IntKind.i64 0, Value.int IntKind.i64 0, Value.int IntKind.i64 0, Value.int IntKind.i64 0, Value.int IntKind.i64 0, Value.int IntKind.i64 0, Value.slice none 0 0]), elem := 0, fields := [(0, 1, false), (1, 1, false), (2, 1, false), (3, 4, true)], eqs := none } := by kernel_rfl
theorem is43 : isStructT E.P 43 = true := by kernel_rfl
theorem ti47 : tiOf E.P 47 = some { tag := Tag.slice, agg := false, size := 1, bytes := 24, zero := some (Value.slice none 0 0), elem := 63, fields := [], eqs := none } := by kernel_rfl
theorem sl47 : isSliceT E.P 47 = true := by kernel_rfl
theorem ti50 : tiOf E.P 50 = some { tag := Tag.slice, agg := false, size := 1, bytes := 24, zero := some (Value.slice none 0 0), elem := 68, fields := [], eqs := none } := by kernel_rfl
theorem sl50 : isSliceT E.P 50 = true := by kernel_rfl
theorem ti61 : tiOf E.P 61 = some { tag := Tag.slice, agg := false, size := 1, bytes := 24, zero := some (Value.slice none 0 0), elem := 111, fields := [], eqs := none } := by kernel_rfl
theorem sl61 : isSliceT E.P 61 = true := by kernel_rfl
theorem ti63 : tiOf E.P 63 = some { tag := Tag.struct, agg := true, size := 5, bytes := 72, zero := some (Value.agg #[Value.int IntKind.i64 0, Value.int IntKind.i64 0, Value.slice none 0 0, Value.int IntKind.i64 0, Value.slice none 0 0]), elem := 0, fields := [(0, 1, false), (1, 1, false), (2, 1, false), (3, 2, true)], eqs := none } := by kernel_rfl
theorem is63 : isStructT E.P 63 = true := by kernel_rfl
theorem ti66 : tiOf E.P 66 = some { tag := Tag.slice, agg := false, size := 1, bytes := 24, zero := some (Value.slice none 0 0), elem := 103, fields := [], eqs := none } := by kernel_rfl
theorem sl66 : isSliceT E.P 66 = true := by kernel_rfl
theorem ti68 : tiOf E.P 68 = some { tag := Tag.struct, agg := true, size := 5, bytes := 72, zero := some (Value.agg #[Value.int IntKind.i64 0, Value.int IntKind.i64 0, Value.slice none 0 0, Value.int IntKind.i64 0, Value.slice none 0 0]), elem := 0, fields := [(0, 1, false), (1, 1, false), (2, 1, false), (3, 2, true)], eqs := none } := by kernel_rfl
theorem is68 : isStructT E.P 68 = true := by kernel_rfl
theorem ti72 : tiOf E.P 72 = some { tag := Tag.struct, agg := true, size := 3, bytes := 24, zero := some (Value.agg #[Value.int IntKind.i64 0, Value.int IntKind.i64 0, Value.int IntKind.i64 0]), elem := 0, fields := [(0, 1, false), (1, 1, false), (2, 1, false)], eqs := some [0, 0, 0] } := by kernel_rfl
theorem is72 : isStructT E.P 72 = true := by kernel_rfl
theorem ti103 : tiOf E.P 103 = some { tag := Tag.struct, agg := true, size := 2, bytes := 16, zero := some (Value.agg #[Value.int IntKind.i64 0, Value.int IntKind.i64 0]), elem := 0, fields := [(0, 1, false), (1, 1, false)], eqs := some [0, 0] } := by kernel_rfl
theorem is103 : isStructT E.P 103 = true := by kernel_rfl
theorem ti111 : tiOf E.P 111 = some { tag := Tag.struct, agg := true, size := 2, bytes := 16, zero := some (Value.agg #[Value.int IntKind.i64 0, Value.int IntKind.i64 0]), elem := 0, fields := [(0, 1, false), (1, 1, false)], eqs := some [0, 0] } := by kernel_rfl
theorem is111 : isStructT E.P 111 = true := by kernel_rfl
theorem ti123 : tiOf E.P 123 = some { tag := Tag.slice, agg := false, size := 1, bytes := 24, zero := some (Value.slice none 0 0), elem := 3, fields := [], eqs := none } := by kernel_rfl
theorem sl123 : isSliceT E.P 123 = true := by kernel_rfl
theorem ti125 : tiOf E.P 125 = some { tag := Tag.array 6, agg := true, size := 6, bytes := 6, zero := some (Value.agg #[Value.bool false, Value.bool false, Value.bool false, Value.bool false, Value.bool false, Value.bool false]), elem := 4, fields := [], eqs := none } := by kernel_rfl
theorem na125 : isSliceT E.P 125 = false := by kernel_rfl
theorem ar125 : isArrayT E.P 125 = some 6 := by kernel_rfl
theorem ns125 : isStructT E.P 125 = false := by kernel_rfl
theorem ti129 : tiOf E.P 129 = some { tag := Tag.slice, agg := false, size := 1, bytes := 24, zero := some (Value.slice none 0 0), elem := 4, fields := [], eqs := none } := by kernel_rfl
theorem sl129 : isSliceT E.P 129 = true := by kernel_rfl
theorem plan_3_8 : E.plan 3 8 = [(false, 0), (false, 2), (true, 1), (false, 3), (false, 4), (false, 5)] := rfl
theorem plan_3_14 : E.plan 3 14 = [(false, 0), (false, 1), (true, 2), (false, 3), (false, 4)] := rfl
theorem plan_3_16 : E.plan 3 16 = [(false, 0), (false, 1), (true, 2), (false, 3), (false, 4)] := rfl
theorem plan_4_10 : E.plan 4 10 = [(false, 0), (false, 1), (true, 2), (false, 3), (false, 4)] := rfl
theorem plan_8_10 : E.plan 8 10 = [(false, 0), (false, 1), (true, 2), (false, 3), (false, 4)] := rfl
theorem plan_9_10 : E.plan 9 10 = [(false, 0), (false, 1), (true, 2), (false, 3), (false, 4)] := rfl
theorem plan_10_8 : E.plan 10 8 = [(false, 0), (false, 2), (true, 1), (false, 3), (false, 4), (false, 5)] := rfl
theorem plan_10_14 : E.plan 10 14 = [(false, 0), (false, 1), (true, 2), (false, 3), (false, 4)] := rfl
theorem plan_10_16 : E.plan 10 16 = [(false, 0), (false, 1), (true, 2), (false, 3), (false, 4)] := rfl
theorem plan_12_10 : E.plan 12 10 = [(false, 0), (false, 1), (true, 2), (false, 3), (false, 4)] := rfl
theorem plan_29_6 : E.plan 29 6 = [(false, 0), (false, 1), (false, 2), (false, 3), (false, 4), (false, 5), (false, 6), (false, 7), (false, 8), (false, 9)] := rfl
theorem plan_36_3 : E.plan 36 3 = [(false, 1), (false, 2), (false, 3), (false, 4), (false, 6), (false, 7), (false, 8), (false, 9), (false, 10), (true, 0), (true, 5), (false, 11), (false, 12), (false, 13)] := rfl
theorem plan_50_4 : E.plan 50 4 = [(false, 0), (false, 1), (false, 2), (false, 3), (false, 4), (false, 5), (false, 6), (false, 7), (false, 8), (false, 9), (false, 10), (false, 11), (false, 12), (false, 13), (false, 14), (false, 15), (false, 16), (false, 17), (false, 18), (false, 19), (false, 20), (false, 21), (false, 22), (false, 23), (false, 24), (false, 25), (false, 26), (false, 27), (false, 28), (false, 29), (false, 30), (false, 31), (false, 32), (false, 33), (false, 34), (false, 35), (false, 36), (false, 37)] := rfl
theorem plan_51_4 : E.plan 51 4 = [(false, 0), (false, 1), (false, 2), (false, 3), (false, 4), (false, 5), (false, 6), (false, 7), (false, 8), (false, 9), (false, 10), (false, 11), (false, 12), (false, 13), (false, 14), (false, 15), (false, 16), (false, 17), (false, 18), (false, 19), (false, 20), (false, 21), (false, 22), (false, 23), (false, 24), (false, 25), (false, 26), (false, 27), (false, 28)] := rfl
theorem plan_54_4 : E.plan 54 4 = [(false, 0), (false, 2), (true, 1), (false, 3), (false, 4), (false, 5), (false, 6)] := rfl
theorem plan_58_6 : E.plan 58 6 = [(false, 0), (false, 1), (false, 2), (false, 3), (false, 4), (false, 5), (false, 6), (false, 7), (false, 8), (false, 9)] := rfl
theorem plan_59_6 : E.plan 59 6 = [(false, 0), (false, 1), (false, 2), (false, 3), (false, 4), (false, 5), (false, 6), (false, 7), (false, 8), (false, 9)] := rfl
theorem plan_64_6 : E.plan 64 6 = [(false, 0), (false, 1), (false, 2), (false, 3), (false, 4), (false, 5), (false, 6), (false, 7), (false, 8), (false, 9), (false, 10), (false, 11)] := rfl
theorem plan_83_6 : E.plan 83 6 = [(false, 0), (false, 1), (false, 2), (false, 3), (false, 4), (false, 5), (false, 6), (false, 7), (false, 8)] := rfl
theorem plan_84_6 : E.plan 84 6 = [(false, 0), (false, 1), (false, 2), (false, 3), (false, 4), (false, 5), (false, 6), (false, 7), (false, 8)] := rfl
theorem plan_90_4 : E.plan 90 4 = [(false, 0), (false, 1), (false, 2), (false, 3), (false, 4), (false, 5), (false, 6), (false, 7), (false, 8), (false, 9), (false, 10), (false, 11), (false, 12), (false, 13), (false, 14), (false, 15), (false, 16), (false, 17), (false, 18), (false, 19), (false, 20), (false, 21), (false, 22), (false, 24), (false, 25), (false, 26), (false, 27), (false, 28), (true, 23), (false, 29), (false, 30)] := rfl
theorem plan_92_4 : E.plan 92 4 = [(false, 0), (false, 1), (false, 2), (false, 3), (false, 4), (false, 5), (false, 6), (false, 7), (false, 8), (false, 9), (false, 10), (false, 11), (false, 12), (false, 13), (false, 15), (false, 16), (true, 14), (false, 17), (false, 18)] := rfl
theorem plan_94_1 : E.plan 94 1 = [(false, 0), (false, 1), (false, 2), (false, 3), (false, 5), (false, 6), (false, 8), (false, 9), (true, 4), (true, 7), (true, 10), (false, 11), (false, 12)] := rfl
theorem plan_97_1 : E.plan 97 1 = [(false, 0), (false, 1), (false, 2), (false, 3), (false, 5), (false, 6), (false, 8), (false, 9), (true, 4), (true, 7), (true, 10), (false, 11), (false, 12)] := rfl
theorem plan_111_6 : E.plan 111 6 = [(false, 0), (false, 1), (false, 2), (false, 3), (false, 4), (false, 5), (false, 6), (false, 7), (false, 8), (false, 9)] := rfl
theorem plan_113_5 : E.plan 113 5 = [(false, 0), (false, 1), (false, 2), (false, 3), (false, 4), (false, 5), (false, 6), (true, 7), (true, 8), (false, 9), (false, 10), (false, 11)] := rfl
theorem plan_114_5 : E.plan 114 5 = [(false, 0), (false, 1), (false, 2), (true, 3), (true, 4), (false, 5), (false, 6), (false, 7)] := rfl
theorem plan_121_1 : E.plan 121 1 = [(false, 0), (false, 1), (false, 2), (false, 3), (true, 4), (false, 5), (false, 6)] := rfl
theorem plan_123_13 : E.plan 123 13 = [(false, 0), (false, 1), (false, 2), (false, 3), (false, 4), (false, 5), (false, 6), (false, 7), (false, 8), (false, 9), (true, 10), (false, 11), (false, 12), (false, 13)] := rfl
theorem plan_124_12 : E.plan 124 12 = [(false, 0), (false, 1), (false, 2), (false, 3), (false, 4), (true, 5), (false, 6), (false, 7), (false, 8), (false, 9), (false, 10), (false, 11), (false, 12), (false, 13), (false, 14), (false, 15), (false, 16), (false, 17), (false, 18), (false, 19)] := rfl
theorem keep_16_4 : E.keep 16 4 = [2, 3, 5] := rfl
theorem keep_25_5 : E.keep 25 5 = [0, 1, 5] := rfl
theorem keep_27_3 : E.keep 27 3 = [0, 3, 4] := rfl
theorem keep_29_4 : E.keep 29 4 = [0, 1, 5] := rfl
theorem keep_30_3 : E.keep 30 3 = [0, 1, 5, 6] := rfl
theorem keep_31_3 : E.keep 31 3 = [1, 5, 8, 9, 10] := rfl
theorem keep_32_2 : E.keep 32 2 = [0, 1, 5] := rfl
theorem keep_34_2 : E.keep 34 2 = [1, 3] := rfl
theorem keep_37_3 : E.keep 37 3 = [1, 4, 5, 13, 14, 15] := rfl
theorem keep_50_2 : E.keep 50 2 = [0, 3] := rfl
theorem keep_51_2 : E.keep 51 2 = [0, 5, 6, 7] := rfl
theorem keep_53_5 : E.keep 53 5 = [0, 1, 5] := rfl
theorem keep_55_3 : E.keep 55 3 = [0, 3, 4] := rfl
theorem keep_56_3 : E.keep 56 3 = [0, 3, 4] := rfl
theorem keep_58_4 : E.keep 58 4 = [0, 1, 5] := rfl
theorem keep_59_4 : E.keep 59 4 = [0, 1, 5] := rfl
theorem keep_60_2 : E.keep 60 2 = [0, 1, 5] := rfl
theorem keep_61_2 : E.keep 61 2 = [0, 1, 5] := rfl
theorem keep_62_2 : E.keep 62 2 = [0, 1, 5] := rfl
theorem keep_63_2 : E.keep 63 2 = [0, 1, 5] := rfl
theorem keep_64_4 : E.keep 64 4 = [2, 3, 5] := rfl
theorem keep_65_4 : E.keep 65 4 = [1, 2, 15, 16, 17] := rfl
theorem keep_76_2 : E.keep 76 2 = [0, 1, 7, 8] := rfl
theorem keep_80_3 : E.keep 80 3 = [1, 2, 3, 4] := rfl
theorem keep_81_3 : E.keep 81 3 = [3, 7, 8, 9] := rfl
theorem keep_82_2 : E.keep 82 2 = [0, 1, 5] := rfl
theorem keep_83_4 : E.keep 83 4 = [0, 1, 5] := rfl
theorem keep_84_4 : E.keep 84 4 = [0, 1, 12, 13] := rfl
theorem keep_90_2 : E.keep 90 2 = [0, 3] := rfl
theorem keep_92_2 : E.keep 92 2 = [0, 5, 6, 7] := rfl
theorem keep_93_3 : E.keep 93 3 = [0, 3, 4] := rfl
theorem keep_96_3 : E.keep 96 3 = [3, 7, 8, 9] := rfl
theorem keep_99_2 : E.keep 99 2 = [0, 1, 5] := rfl
theorem keep_100_2 : E.keep 100 2 = [0, 1, 5] := rfl
theorem keep_102_5 : E.keep 102 5 = [0, 1, 5] := rfl
theorem keep_104_3 : E.keep 104 3 = [1, 2, 5] := rfl
theorem keep_105_4 : E.keep 105 4 = [1, 3] := rfl
theorem keep_106_3 : E.keep 106 3 = [0, 3, 4] := rfl
theorem keep_109_3 : E.keep 109 3 = [3, 7, 8, 9] := rfl
theorem keep_111_4 : E.keep 111 4 = [0, 1, 5] := rfl
theorem keep_112_2 : E.keep 112 2 = [0, 1, 7, 8] := rfl
theorem keep_113_3 : E.keep 113 3 = [1, 2, 3, 4] := rfl
theorem keep_114_3 : E.keep 114 3 = [2, 3, 14, 15, 16] := rfl
theorem keep_115_2 : E.keep 115 2 = [0, 1, 5] := rfl
theorem keep_117_2 : E.keep 117 2 = [0, 1, 5] := rfl
theorem keep_118_15 : E.keep 118 15 = [5, 6, 9] := rfl
theorem keep_118_10 : E.keep 118 10 = [0, 5, 6, 7, 8] := rfl
theorem keep_118_7 : E.keep 118 7 = [0, 5, 6, 7] := rfl
theorem keep_120_7 : E.keep 120 7 = [0, 4, 5, 6, 7, 21, 22, 23] := rfl
theorem keep_120_3 : E.keep 120 3 = [0, 4, 5, 6] := rfl
theorem keep_122_4 : E.keep 122 4 = [1, 2, 15, 16, 17] := rfl
theorem keep_129_2 : E.keep 129 2 = [0, 1, 7, 8] := rfl
theorem md_3 : E.md 3 = [] := rfl
theorem md_4 : E.md 4 = [] := rfl
theorem md_5 : E.md 5 = [] := rfl
theorem md_6 : E.md 6 = [] := rfl
theorem md_7 : E.md 7 = [] := rfl
theorem md_8 : E.md 8 = [] := rfl
theorem md_9 : E.md 9 = [] := rfl
theorem md_10 : E.md 10 = [] := rfl
theorem md_11 : E.md 11 = [] := rfl
theorem md_12 : E.md 12 = [] := rfl
theorem md_13 : E.md 13 = [] := rfl
theorem md_14 : E.md 14 = [] := rfl
theorem md_15 : E.md 15 = [] := rfl
theorem md_16 : E.md 16 = [] := rfl
theorem md_17 : E.md 17 = [] := rfl
theorem md_18 : E.md 18 = [] := rfl
theorem md_19 : E.md 19 = [] := rfl
theorem md_20 : E.md 20 = [] := rfl
theorem md_21 : E.md 21 = [] := rfl
theorem md_22 : E.md 22 = [] := rfl
theorem md_23 : E.md 23 = [] := rfl
theorem md_24 : E.md 24 = [] := rfl
theorem md_25 : E.md 25 = [] := rfl
theorem md_26 : E.md 26 = [] := rfl
theorem md_27 : E.md 27 = [] := rfl
theorem md_28 : E.md 28 = [] := rfl
theorem md_29 : E.md 29 = [] := rfl
theorem md_30 : E.md 30 = [] := rfl
theorem md_31 : E.md 31 = [] := rfl
theorem md_32 : E.md 32 = [] := rfl
theorem md_33 : E.md 33 = [] := rfl
theorem md_34 : E.md 34 = [] := rfl
theorem md_35 : E.md 35 = [] := rfl
theorem md_36 : E.md 36 = [] := rfl
theorem md_37 : E.md 37 = [] := rfl
theorem md_38 : E.md 38 = [.«mut», .ro] := rfl
theorem md_39 : E.md 39 = [] := rfl
theorem md_40 : E.md 40 = [] := rfl
theorem md_41 : E.md 41 = [] := rfl
theorem md_42 : E.md 42 = [] := rfl
theorem md_43 : E.md 43 = [] := rfl
theorem md_44 : E.md 44 = [] := rfl
theorem md_45 : E.md 45 = [] := rfl
theorem md_46 : E.md 46 = [] := rfl
theorem md_47 : E.md 47 = [] := rfl
theorem md_48 : E.md 48 = [] := rfl
theorem md_49 : E.md 49 = [] := rfl
theorem md_50 : E.md 50 = [] := rfl
theorem md_51 : E.md 51 = [] := rfl
theorem md_52 : E.md 52 = [] := rfl
theorem md_53 : E.md 53 = [] := rfl
theorem md_54 : E.md 54 = [] := rfl
theorem md_55 : E.md 55 = [] := rfl
theorem md_56 : E.md 56 = [] := rfl
theorem md_57 : E.md 57 = [] := rfl
theorem md_58 : E.md 58 = [] := rfl
theorem md_59 : E.md 59 = [] := rfl
theorem md_60 : E.md 60 = [.«mut», .ro] := rfl
theorem md_61 : E.md 61 = [.«mut», .ro] := rfl
theorem md_62 : E.md 62 = [.«mut», .ro] := rfl
theorem md_63 : E.md 63 = [] := rfl
theorem md_64 : E.md 64 = [] := rfl
theorem md_65 : E.md 65 = [] := rfl
theorem md_66 : E.md 66 = [] := rfl
theorem md_67 : E.md 67 = [] := rfl
theorem md_68 : E.md 68 = [] := rfl
theorem md_69 : E.md 69 = [] := rfl
theorem md_70 : E.md 70 = [] := rfl
theorem md_71 : E.md 71 = [] := rfl
theorem md_72 : E.md 72 = [] := rfl
theorem md_73 : E.md 73 = [] := rfl
theorem md_74 : E.md 74 = [] := rfl
theorem md_75 : E.md 75 = [] := rfl
theorem md_76 : E.md 76 = [] := rfl
theorem md_77 : E.md 77 = [] := rfl
theorem md_78 : E.md 78 = [] := rfl
theorem md_79 : E.md 79 = [] := rfl
theorem md_80 : E.md 80 = [] := rfl
theorem md_81 : E.md 81 = [] := rfl
theorem md_82 : E.md 82 = [] := rfl
theorem md_83 : E.md 83 = [] := rfl
theorem md_84 : E.md 84 = [] := rfl
theorem md_85 : E.md 85 = [] := rfl
theorem md_86 : E.md 86 = [] := rfl
theorem md_87 : E.md 87 = [] := rfl
theorem md_88 : E.md 88 = [] := rfl
theorem md_89 : E.md 89 = [] := rfl
theorem md_90 : E.md 90 = [] := rfl
theorem md_91 : E.md 91 = [] := rfl
theorem md_92 : E.md 92 = [] := rfl
theorem md_93 : E.md 93 = [] := rfl
theorem md_94 : E.md 94 = [] := rfl
theorem md_95 : E.md 95 = [] := rfl
theorem md_96 : E.md 96 = [] := rfl
theorem md_97 : E.md 97 = [] := rfl
theorem md_98 : E.md 98 = [] := rfl
theorem md_99 : E.md 99 = [.«mut», .ro] := rfl
theorem md_100 : E.md 100 = [] := rfl
theorem md_101 : E.md 101 = [] := rfl
theorem md_102 : E.md 102 = [] := rfl
theorem md_103 : E.md 103 = [] := rfl
theorem md_104 : E.md 104 = [] := rfl
theorem md_105 : E.md 105 = [] := rfl
theorem md_106 : E.md 106 = [] := rfl
theorem md_107 : E.md 107 = [] := rfl
theorem md_108 : E.md 108 = [] := rfl
theorem md_109 : E.md 109 = [] := rfl
theorem md_110 : E.md 110 = [] := rfl
theorem md_111 : E.md 111 = [] := rfl
theorem md_112 : E.md 112 = [] := rfl
theorem md_113 : E.md 113 = [] := rfl
theorem md_114 : E.md 114 = [] := rfl
theorem md_115 : E.md 115 = [] := rfl
theorem md_116 : E.md 116 = [] := rfl
theorem md_117 : E.md 117 = [] := rfl
theorem md_118 : E.md 118 = [] := rfl
theorem md_119 : E.md 119 = [] := rfl
theorem md_120 : E.md 120 = [] := rfl
theorem md_121 : E.md 121 = [] := rfl
theorem md_122 : E.md 122 = [] := rfl
theorem md_123 : E.md 123 = [] := rfl
theorem md_124 : E.md 124 = [] := rfl
theorem md_125 : E.md 125 = [] := rfl
theorem md_126 : E.md 126 = [] := rfl
theorem md_127 : E.md 127 = [] := rfl
theorem md_128 : E.md 128 = [] := rfl
theorem md_129 : E.md 129 = [] := rfl
theorem tr_3 : E.tree 3 = false := rfl
theorem tr_4 : E.tree 4 = false := rfl
theorem tr_5 : E.tree 5 = false := rfl
theorem tr_6 : E.tree 6 = false := rfl
theorem tr_7 : E.tree 7 = false := rfl
theorem tr_8 : E.tree 8 = false := rfl
theorem tr_9 : E.tree 9 = false := rfl
theorem tr_10 : E.tree 10 = false := rfl
theorem tr_11 : E.tree 11 = false := rfl
theorem tr_12 : E.tree 12 = false := rfl
theorem tr_13 : E.tree 13 = false := rfl
theorem tr_14 : E.tree 14 = false := rfl
theorem tr_15 : E.tree 15 = false := rfl
theorem tr_16 : E.tree 16 = false := rfl
theorem tr_17 : E.tree 17 = false := rfl
theorem tr_18 : E.tree 18 = false := rfl
theorem tr_19 : E.tree 19 = false := rfl
theorem tr_20 : E.tree 20 = false := rfl
theorem tr_21 : E.tree 21 = false := rfl
theorem tr_22 : E.tree 22 = false := rfl
theorem tr_23 : E.tree 23 = false := rfl
theorem tr_24 : E.tree 24 = false := rfl
theorem tr_25 : E.tree 25 = false := rfl
theorem tr_26 : E.tree 26 = false := rfl
theorem tr_27 : E.tree 27 = false := rfl
theorem tr_28 : E.tree 28 = false := rfl
theorem tr_29 : E.tree 29 = false := rfl
theorem tr_30 : E.tree 30 = false := rfl
theorem tr_31 : E.tree 31 = false := rfl
theorem tr_32 : E.tree 32 = false := rfl
theorem tr_33 : E.tree 33 = false := rfl
theorem tr_34 : E.tree 34 = false := rfl
theorem tr_35 : E.tree 35 = false := rfl
theorem tr_36 : E.tree 36 = false := rfl
theorem tr_37 : E.tree 37 = false := rfl
theorem tr_38 : E.tree 38 = false := rfl
theorem tr_39 : E.tree 39 = false := rfl
theorem tr_40 : E.tree 40 = false := rfl
theorem tr_41 : E.tree 41 = false := rfl
theorem tr_42 : E.tree 42 = false := rfl
theorem tr_43 : E.tree 43 = false := rfl
theorem tr_44 : E.tree 44 = false := rfl
theorem tr_45 : E.tree 45 = false := rfl
theorem tr_46 : E.tree 46 = false := rfl
theorem tr_47 : E.tree 47 = false := rfl
theorem tr_48 : E.tree 48 = false := rfl
theorem tr_49 : E.tree 49 = false := rfl
theorem tr_50 : E.tree 50 = false := rfl
theorem tr_51 : E.tree 51 = false := rfl
theorem tr_52 : E.tree 52 = false := rfl
theorem tr_53 : E.tree 53 = false := rfl
theorem tr_54 : E.tree 54 = false := rfl
theorem tr_55 : E.tree 55 = false := rfl
theorem tr_56 : E.tree 56 = false := rfl
theorem tr_57 : E.tree 57 = false := rfl
theorem tr_58 : E.tree 58 = false := rfl
theorem tr_59 : E.tree 59 = false := rfl
theorem tr_60 : E.tree 60 = false := rfl
theorem tr_61 : E.tree 61 = false := rfl
theorem tr_62 : E.tree 62 = false := rfl
theorem tr_63 : E.tree 63 = false := rfl
theorem tr_64 : E.tree 64 = false := rfl
theorem tr_65 : E.tree 65 = false := rfl
theorem tr_66 : E.tree 66 = false := rfl
theorem tr_67 : E.tree 67 = false := rfl
theorem tr_68 : E.tree 68 = false := rfl
theorem tr_69 : E.tree 69 = false := rfl
theorem tr_70 : E.tree 70 = false := rfl
theorem tr_71 : E.tree 71 = false := rfl
theorem tr_72 : E.tree 72 = false := rfl
theorem tr_73 : E.tree 73 = false := rfl
theorem tr_74 : E.tree 74 = false := rfl
theorem tr_75 : E.tree 75 = false := rfl
theorem tr_76 : E.tree 76 = false := rfl
theorem tr_77 : E.tree 77 = false := rfl
theorem tr_78 : E.tree 78 = false := rfl
theorem tr_79 : E.tree 79 = false := rfl
theorem tr_80 : E.tree 80 = false := rfl
theorem tr_81 : E.tree 81 = false := rfl
theorem tr_82 : E.tree 82 = false := rfl
theorem tr_83 : E.tree 83 = false := rfl
theorem tr_84 : E.tree 84 = false := rfl
theorem tr_85 : E.tree 85 = false := rfl
theorem tr_86 : E.tree 86 = false := rfl
theorem tr_87 : E.tree 87 = false := rfl
theorem tr_88 : E.tree 88 = false := rfl
theorem tr_89 : E.tree 89 = false := rfl
theorem tr_90 : E.tree 90 = false := rfl
theorem tr_91 : E.tree 91 = false := rfl
theorem tr_92 : E.tree 92 = false := rfl
theorem tr_93 : E.tree 93 = false := rfl
theorem tr_94 : E.tree 94 = false := rfl
theorem tr_95 : E.tree 95 = false := rfl
theorem tr_96 : E.tree 96 = false := rfl
theorem tr_97 : E.tree 97 = false := rfl
theorem tr_98 : E.tree 98 = false := rfl
theorem tr_99 : E.tree 99 = false := rfl
theorem tr_100 : E.tree 100 = false := rfl
theorem tr_101 : E.tree 101 = false := rfl
theorem tr_102 : E.tree 102 = false := rfl
theorem tr_103 : E.tree 103 = false := rfl
theorem tr_104 : E.tree 104 = false := rfl
theorem tr_105 : E.tree 105 = false := rfl
theorem tr_106 : E.tree 106 = false := rfl
theorem tr_107 : E.tree 107 = false := rfl
theorem tr_108 : E.tree 108 = false := rfl
theorem tr_109 : E.tree 109 = false := rfl
theorem tr_110 : E.tree 110 = false := rfl
theorem tr_111 : E.tree 111 = false := rfl
theorem tr_112 : E.tree 112 = false := rfl
theorem tr_113 : E.tree 113 = false := rfl
theorem tr_114 : E.tree 114 = false := rfl
theorem tr_115 : E.tree 115 = false := rfl
theorem tr_116 : E.tree 116 = false := rfl
theorem tr_117 : E.tree 117 = false := rfl
theorem tr_118 : E.tree 118 = false := rfl
theorem tr_119 : E.tree 119 = false := rfl
theorem tr_120 : E.tree 120 = false := rfl
theorem tr_121 : E.tree 121 = false := rfl
theorem tr_122 : E.tree 122 = false := rfl
theorem tr_123 : E.tree 123 = false := rfl
theorem tr_124 : E.tree 124 = false := rfl
theorem tr_125 : E.tree 125 = false := rfl
theorem tr_126 : E.tree 126 = false := rfl
theorem tr_127 : E.tree 127 = false := rfl
theorem tr_128 : E.tree 128 = false := rfl
theorem tr_129 : E.tree 129 = false := rfl
theorem MDS : type_of% (And.intro (And.intro (And.intro (And.intro (And.intro (And.intro (And.intro @md_3 (And.intro @md_4 @md_5)) (And.intro (And.intro @md_6 @md_7) (And.intro @md_8 @md_9))) (And.intro (And.intro (And.intro @md_10 @md_11) (And.intro @md_12 @md_13)) (And.intro (And.intro @md_14 @md_15) (And.intro @md_16 @md_17)))) (And.intro (And.intro (And.intro (And.intro @md_18 @md_19) (And.intro @md_20 @md_21)) (And.intro (And.intro @md_22 @md_23) (And.intro @md_24 @md_25))) (And.intro (And.intro (And.intro @md_26 @md_27) (And.intro @md_28 @md_29)) (And.intro (And.intro @md_30 @md_31) (And.intro @md_32 @md_33))))) (And.intro (And.intro (And.intro (And.intro (And.intro @md_34 @md_35) (And.intro @md_36 @md_37)) (And.intro (And.intro @md_38 @md_39) (And.intro @md_40 @md_41))) (And.intro (And.intro (And.intro @md_42 @md_43) (And.intro @md_44 @md_45)) (And.intro (And.intro @md_46 @md_47) (And.intro @md_48 @md_49)))) (And.intro (And.intro (And.intro (And.intro @md_50 @md_51) (And.intro @md_52 @md_53)) (And.intro (And.intro @md_54 @md_55) (And.intro @md_56 @md_57))) (And.intro (And.intro (And.intro @md_58 @md_59) (And.intro @md_60 @md_61)) (And.intro (And.intro @md_62 @md_63) (And.intro @md_64 @md_65)))))) (And.intro (And.intro (And.intro (And.intro (And.intro (And.intro @md_66 @md_67) (And.intro @md_68 @md_69)) (And.intro (And.intro @md_70 @md_71) (And.intro @md_72 @md_73))) (And.intro (And.intro (And.intro @md_74 @md_75) (And.intro @md_76 @md_77)) (And.intro (And.intro @md_78 @md_79) (And.intro @md_80 @md_81)))) (And.intro (And.intro (And.intro (And.intro @md_82 @md_83) (And.intro @md_84 @md_85)) (And.intro (And.intro @md_86 @md_87) (And.intro @md_88 @md_89))) (And.intro (And.intro (And.intro @md_90 @md_91) (And.intro @md_92 @md_93)) (And.intro (And.intro @md_94 @md_95) (And.intro @md_96 @md_97))))) (And.intro (And.intro (And.intro (And.intro (And.intro @md_98 @md_99) (And.intro @md_100 @md_101)) (And.intro (And.intro @md_102 @md_103) (And.intro @md_104 @md_105))) (And.intro (And.intro (And.intro @md_106 @md_107) (And.intro @md_108 @md_109)) (And.intro (And.intro @md_110 @md_111) (And.intro @md_112 @md_113)))) (And.intro (And.intro (And.intro (And.intro @md_114 @md_115) (And.intro @md_116 @md_117)) (And.intro (And.intro @md_118 @md_119) (And.intro @md_120 @md_121))) (And.intro (And.intro (And.intro @md_122 @md_123) (And.intro @md_124 @md_125)) (And.intro (And.intro @md_126 @md_127) (And.intro @md_128 @md_129))))))) (And.intro (And.intro (And.intro (And.intro (And.intro (And.intro @tr_3 (And.intro @tr_4 @tr_5)) (And.intro (And.intro @tr_6 @tr_7) (And.intro @tr_8 @tr_9))) (And.intro (And.intro (And.intro @tr_10 @tr_11) (And.intro @tr_12 @tr_13)) (And.intro (And.intro @tr_14 @tr_15) (And.intro @tr_16 @tr_17)))) (And.intro (And.intro (And.intro (And.intro @tr_18 @tr_19) (And.intro @tr_20 @tr_21)) (And.intro (And.intro @tr_22 @tr_23) (And.intro @tr_24 @tr_25))) (And.intro (And.intro (And.intro @tr_26 @tr_27) (And.intro @tr_28 @tr_29)) (And.intro (And.intro @tr_30 @tr_31) (And.intro @tr_32 @tr_33))))) (And.intro (And.intro (And.intro (And.intro (And.intro @tr_34 @tr_35) (And.intro @tr_36 @tr_37)) (And.intro (And.intro @tr_38 @tr_39) (And.intro @tr_40 @tr_41))) (And.intro (And.intro (And.intro @tr_42 @tr_43) (And.intro @tr_44 @tr_45)) (And.intro (And.intro @tr_46 @tr_47) (And.intro @tr_48 @tr_49)))) (And.intro (And.intro (And.intro (And.intro @tr_50 @tr_51) (And.intro @tr_52 @tr_53)) (And.intro (And.intro @tr_54 @tr_55) (And.intro @tr_56 @tr_57))) (And.intro (And.intro (And.intro @tr_58 @tr_59) (And.intro @tr_60 @tr_61)) (And.intro (And.intro @tr_62 @tr_63) (And.intro @tr_64 @tr_65)))))) (And.intro (And.intro (And.intro (And.intro (And.intro (And.intro @tr_66 @tr_67) (And.intro @tr_68 @tr_69)) (And.intro (And.intro @tr_70 @tr_71) (And.intro @tr_72 @tr_73))) (And.intro (And.intro (And.intro @tr_74 @tr_75) (And.intro @tr_76 @tr_77)) (And.intro (And.intro @tr_78 @tr_79) (And.intro @tr_80 @tr_81)))) (And.intro (And.intro (And.intro (And.intro @tr_82 @tr_83) (And.intro @tr_84 @tr_85)) (And.intro (And.intro @tr_86 @tr_87) (And.intro @tr_88 @tr_89))) (And.intro (And.intro (And.intro @tr_90 @tr_91) (And.intro @tr_92 @tr_93)) (And.intro (And.intro @tr_94 @tr_95) (And.intro @tr_96 @tr_97))))) (And.intro (And.intro (And.intro (And.intro (And.intro @tr_98 @tr_99) (And.intro @tr_100 @tr_101)) (And.intro (And.intro @tr_102 @tr_103) (And.intro @tr_104 @tr_105))) (And.intro (And.intro (And.intro @tr_106 @tr_107) (And.intro @tr_108 @tr_109)) (And.intro (And.intro @tr_110 @tr_111) (And.intro @tr_112 @tr_113)))) (And.intro (And.intro (And.intro (And.intro @tr_114 @tr_115) (And.intro @tr_116 @tr_117)) (And.intro (And.intro @tr_118 @tr_119) (And.intro @tr_120 @tr_121))) (And.intro (And.intro (And.intro @tr_122 @tr_123) (And.intro @tr_124 @tr_125)) (And.intro (And.intro @tr_126 @tr_127) (And.intro @tr_128 @tr_129)))))))) := (And.intro (And.intro (And.intro (And.intro (And.intro (And.intro (And.intro @md_3 (And.intro @md_4 @md_5)) (And.intro (And.intro @md_6 @md_7) (And.intro @md_8 @md_9))) (And.intro (And.intro (And.intro @md_10 @md_11) (And.intro @md_12 @md_13)) (And.intro (And.intro @md_14 @md_15) (And.intro @md_16 @md_17)))) (And.intro (And.intro (And.intro (And.intro @md_18 @md_19) (And.intro @md_20 @md_21)) (And.intro (And.intro @md_22 @md_23) (And.intro @md_24 @md_25))) (And.intro (And.intro (And.intro @md_26 @md_27) (And.intro @md_28 @md_29)) (And.intro (And.intro @md_30 @md_31) (And.intro @md_32 @md_33))))) (And.intro (And.intro (And.intro (And.intro (And.intro @md_34 @md_35) (And.intro @md_36 @md_37)) (And.intro (And.intro @md_38 @md_39) (And.intro @md_40 @md_41))) (And.intro (And.intro (And.intro @md_42 @md_43) (And.intro @md_44 @md_45)) (And.intro (And.intro @md_46 @md_47) (And.intro @md_48 @md_49)))) (And.intro (And.intro (And.intro (And.intro @md_50 @md_51) (And.intro @md_52 @md_53)) (And.intro (And.intro @md_54 @md_55) (And.intro @md_56 @md_57))) (And.intro (And.intro (And.intro @md_58 @md_59) (And.intro @md_60 @md_61)) (And.intro (And.intro @md_62 @md_63) (And.intro @md_64 @md_65)))))) (And.intro (And.intro (And.intro (And.intro (And.intro (And.intro @md_66 @md_67) (And.intro @md_68 @md_69)) (And.intro (And.intro @md_70 @md_71) (And.intro @md_72 @md_73))) (And.intro (And.intro (And.intro @md_74 @md_75) (And.intro @md_76 @md_77)) (And.intro (And.intro @md_78 @md_79) (And.intro @md_80 @md_81)))) (And.intro (And.intro (And.intro (And.intro @md_82 @md_83) (And.intro @md_84 @md_85)) (And.intro (And.intro @md_86 @md_87) (And.intro @md_88 @md_89))) (And.intro (And.intro (And.intro @md_90 @md_91) (And.intro @md_92 @md_93)) (And.intro (And.intro @md_94 @md_95) (And.intro @md_96 @md_97))))) (And.intro (And.intro (And.intro (And.intro (And.intro @md_98 @md_99) (And.intro @md_100 @md_101)) (And.intro (And.intro @md_102 @md_103) (And.intro @md_104 @md_105))) (And.intro (And.intro (And.intro @md_106 @md_107) (And.intro @md_108 @md_109)) (And.intro (And.intro @md_110 @md_111) (And.intro @md_112 @md_113)))) (And.intro (And.intro (And.intro (And.intro @md_114 @md_115) (And.intro @md_116 @md_117)) (And.intro (And.intro @md_118 @md_119) (And.intro @md_120 @md_121))) (And.intro (And.intro (And.intro @md_122 @md_123) (And.intro @md_124 @md_125)) (And.intro (And.intro @md_126 @md_127) (And.intro @md_128 @md_129))))))) (And.intro (And.intro (And.intro (And.intro (And.intro (And.intro @tr_3 (And.intro @tr_4 @tr_5)) (And.intro (And.intro @tr_6 @tr_7) (And.intro @tr_8 @tr_9))) (And.intro (And.intro (And.intro @tr_10 @tr_11) (And.intro @tr_12 @tr_13)) (And.intro (And.intro @tr_14 @tr_15) (And.intro @tr_16 @tr_17)))) (And.intro (And.intro (And.intro (And.intro @tr_18 @tr_19) (And.intro @tr_20 @tr_21)) (And.intro (And.intro @tr_22 @tr_23) (And.intro @tr_24 @tr_25))) (And.intro (And.intro (And.intro @tr_26 @tr_27) (And.intro @tr_28 @tr_29)) (And.intro (And.intro @tr_30 @tr_31) (And.intro @tr_32 @tr_33))))) (And.intro (And.intro (And.intro (And.intro (And.intro @tr_34 @tr_35) (And.intro @tr_36 @tr_37)) (And.intro (And.intro @tr_38 @tr_39) (And.intro @tr_40 @tr_41))) (And.intro (And.intro (And.intro @tr_42 @tr_43) (And.intro @tr_44 @tr_45)) (And.intro (And.intro @tr_46 @tr_47) (And.intro @tr_48 @tr_49)))) (And.intro (And.intro (And.intro (And.intro @tr_50 @tr_51) (And.intro @tr_52 @tr_53)) (And.intro (And.intro @tr_54 @tr_55) (And.intro @tr_56 @tr_57))) (And.intro (And.intro (And.intro @tr_58 @tr_59) (And.intro @tr_60 @tr_61)) (And.intro (And.intro @tr_62 @tr_63) (And.intro @tr_64 @tr_65)))))) (And.intro (And.intro (And.intro (And.intro (And.intro (And.intro @tr_66 @tr_67) (And.intro @tr_68 @tr_69)) (And.intro (And.intro @tr_70 @tr_71) (And.intro @tr_72 @tr_73))) (And.intro (And.intro (And.intro @tr_74 @tr_75) (And.intro @tr_76 @tr_77)) (And.intro (And.intro @tr_78 @tr_79) (And.intro @tr_80 @tr_81)))) (And.intro (And.intro (And.intro (And.intro @tr_82 @tr_83) (And.intro @tr_84 @tr_85)) (And.intro (And.intro @tr_86 @tr_87) (And.intro @tr_88 @tr_89))) (And.intro (And.intro (And.intro @tr_90 @tr_91) (And.intro @tr_92 @tr_93)) (And.intro (And.intro @tr_94 @tr_95) (And.intro @tr_96 @tr_97))))) (And.intro (And.intro (And.intro (And.intro (And.intro @tr_98 @tr_99) (And.intro @tr_100 @tr_101)) (And.intro (And.intro @tr_102 @tr_103) (And.intro @tr_104 @tr_105))) (And.intro (And.intro (And.intro @tr_106 @tr_107) (And.intro @tr_108 @tr_109)) (And.intro (And.intro @tr_110 @tr_111) (And.intro @tr_112 @tr_113)))) (And.intro (And.intro (And.intro (And.intro @tr_114 @tr_115) (And.intro @tr_116 @tr_117)) (And.intro (And.intro @tr_118 @tr_119) (And.intro @tr_120 @tr_121))) (And.intro (And.intro (And.intro @tr_122 @tr_123) (And.intro @tr_124 @tr_125)) (And.intro (And.intro @tr_126 @tr_127) (And.intro @tr_128 @tr_129))))))))
theorem TIS : type_of% (And.intro (And.intro (And.intro (And.intro (And.intro @ti3 (And.intro @ti4 @ti22)) (And.intro @sl22 (And.intro @ti24 @is24))) (And.intro (And.intro @ti27 (And.intro @sl27 @ti29)) (And.intro @is29 (And.intro @ti32 @sl32)))) (And.intro (And.intro (And.intro @ti34 (And.intro @is34 @ti36)) (And.intro @is36 (And.intro @ti39 @sl39))) (And.intro (And.intro @ti41 (And.intro @is41 @ti43)) (And.intro @is43 (And.intro @ti47 @sl47))))) (And.intro (And.intro (And.intro (And.intro @ti50 (And.intro @sl50 @ti61)) (And.intro @sl61 (And.intro @ti63 @is63))) (And.intro (And.intro @ti66 (And.intro @sl66 @ti68)) (And.intro @is68 (And.intro @ti72 @is72)))) (And.intro (And.intro (And.intro @ti103 (And.intro @is103 @ti111)) (And.intro @is111 (And.intro @ti123 @sl123))) (And.intro (And.intro @ti125 (And.intro @na125 @ar125)) (And.intro @ns125 (And.intro @ti129 @sl129)))))) := (And.intro (And.intro (And.intro (And.intro (And.intro @ti3 (And.intro @ti4 @ti22)) (And.intro @sl22 (And.intro @ti24 @is24))) (And.intro (And.intro @ti27 (And.intro @sl27 @ti29)) (And.intro @is29 (And.intro @ti32 @sl32)))) (And.intro (And.intro (And.intro @ti34 (And.intro @is34 @ti36)) (And.intro @is36 (And.intro @ti39 @sl39))) (And.intro (And.intro @ti41 (And.intro @is41 @ti43)) (And.intro @is43 (And.intro @ti47 @sl47))))) (And.intro (And.intro (And.intro (And.intro @ti50 (And.intro @sl50 @ti61)) (And.intro @sl61 (And.intro @ti63 @is63))) (And.intro (And.intro @ti66 (And.intro @sl66 @ti68)) (And.intro @is68 (And.intro @ti72 @is72)))) (And.intro (And.intro (And.intro @ti103 (And.intro @is103 @ti111)) (And.intro @is111 (And.intro @ti123 @sl123))) (And.intro (And.intro @ti125 (And.intro @na125 @ar125)) (And.intro @ns125 (And.intro @ti129 @sl129))))))
end Go.Proofs.Ytkcapoambnnekaa.Flat
