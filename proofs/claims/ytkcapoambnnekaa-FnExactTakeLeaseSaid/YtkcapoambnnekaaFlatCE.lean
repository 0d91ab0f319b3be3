/-
The program's functions, and how they are reckoned with: tables.
-/
import Derived.Test.YtkcapoambnnekaaFlatM5
import Derived.Test.YtkcapoambnnekaaProg
import Derived.KernelRfl
set_option linter.unusedVariables false
set_option linter.unusedSimpArgs false
namespace Go.Proofs.Ytkcapoambnnekaa.Flat
def keepT : Nat → Nat → List Nat
  | 16, 4 => [2, 3, 5]
  | 25, 5 => [0, 1, 5]
  | 27, 3 => [0, 3, 4]
  | 29, 4 => [0, 1, 5]
  | 30, 3 => [0, 1, 5, 6]
  | 31, 3 => [1, 5, 8, 9, 10]
  | 32, 2 => [0, 1, 5]
  | 34, 2 => [1, 3]
  | 37, 3 => [1, 4, 5, 13, 14, 15]
  | 50, 2 => [0, 3]
  | 51, 2 => [0, 5, 6, 7]
  | 53, 5 => [0, 1, 5]
  | 55, 3 => [0, 3, 4]
  | 56, 3 => [0, 3, 4]
  | 58, 4 => [0, 1, 5]
  | 59, 4 => [0, 1, 5]
  | 60, 2 => [0, 1, 5]
  | 61, 2 => [0, 1, 5]
  | 62, 2 => [0, 1, 5]
  | 63, 2 => [0, 1, 5]
  | 64, 4 => [2, 3, 5]
  | 65, 4 => [1, 2, 15, 16, 17]
  | 76, 2 => [0, 1, 7, 8]
  | 80, 3 => [1, 2, 3, 4]
  | 81, 3 => [3, 7, 8, 9]
  | 82, 2 => [0, 1, 5]
  | 83, 4 => [0, 1, 5]
  | 84, 4 => [0, 1, 12, 13]
  | 90, 2 => [0, 3]
  | 92, 2 => [0, 5, 6, 7]
  | 93, 3 => [0, 3, 4]
  | 96, 3 => [3, 7, 8, 9]
  | 99, 2 => [0, 1, 5]
  | 100, 2 => [0, 1, 5]
  | 102, 5 => [0, 1, 5]
  | 104, 3 => [1, 2, 5]
  | 105, 4 => [1, 3]
  | 106, 3 => [0, 3, 4]
  | 109, 3 => [3, 7, 8, 9]
  | 111, 4 => [0, 1, 5]
  | 112, 2 => [0, 1, 7, 8]
  | 113, 3 => [1, 2, 3, 4]
  | 114, 3 => [2, 3, 14, 15, 16]
  | 115, 2 => [0, 1, 5]
  | 117, 2 => [0, 1, 5]
  | 118, 15 => [5, 6, 9]
  | 118, 10 => [0, 5, 6, 7, 8]
  | 118, 7 => [0, 5, 6, 7]
  | 120, 7 => [0, 4, 5, 6, 7, 21, 22, 23]
  | 120, 3 => [0, 4, 5, 6]
  | 122, 4 => [1, 2, 15, 16, 17]
  | 129, 2 => [0, 1, 7, 8]
  | _, _ => []
def planT : Nat → Nat → List (Bool × Nat)
  | 3, 8 => [(false, 0), (false, 2), (true, 1), (false, 3), (false, 4), (false, 5)]
  | 3, 14 => [(false, 0), (false, 1), (true, 2), (false, 3), (false, 4)]
  | 3, 16 => [(false, 0), (false, 1), (true, 2), (false, 3), (false, 4)]
  | 4, 10 => [(false, 0), (false, 1), (true, 2), (false, 3), (false, 4)]
  | 8, 10 => [(false, 0), (false, 1), (true, 2), (false, 3), (false, 4)]
  | 9, 10 => [(false, 0), (false, 1), (true, 2), (false, 3), (false, 4)]
  | 10, 8 => [(false, 0), (false, 2), (true, 1), (false, 3), (false, 4), (false, 5)]
  | 10, 14 => [(false, 0), (false, 1), (true, 2), (false, 3), (false, 4)]
  | 10, 16 => [(false, 0), (false, 1), (true, 2), (false, 3), (false, 4)]
  | 12, 10 => [(false, 0), (false, 1), (true, 2), (false, 3), (false, 4)]
  | 29, 6 => [(false, 0), (false, 1), (false, 2), (false, 3), (false, 4), (false, 5), (false, 6), (false, 7), (false, 8), (false, 9)]
  | 36, 3 => [(false, 1), (false, 2), (false, 3), (false, 4), (false, 6), (false, 7), (false, 8), (false, 9), (false, 10), (true, 0), (true, 5), (false, 11), (false, 12), (false, 13)]
  | 50, 4 => [(false, 0), (false, 1), (false, 2), (false, 3), (false, 4), (false, 5), (false, 6), (false, 7), (false, 8), (false, 9), (false, 10), (false, 11), (false, 12), (false, 13), (false, 14), (false, 15), (false, 16), (false, 17), (false, 18), (false, 19), (false, 20), (false, 21), (false, 22), (false, 23), (false, 24), (false, 25), (false, 26), (false, 27), (false, 28), (false, 29), (false, 30), (false, 31), (false, 32), (false, 33), (false, 34), (false, 35), (false, 36), (false, 37)]
  | 51, 4 => [(false, 0), (false, 1), (false, 2), (false, 3), (false, 4), (false, 5), (false, 6), (false, 7), (false, 8), (false, 9), (false, 10), (false, 11), (false, 12), (false, 13), (false, 14), (false, 15), (false, 16), (false, 17), (false, 18), (false, 19), (false, 20), (false, 21), (false, 22), (false, 23), (false, 24), (false, 25), (false, 26), (false, 27), (false, 28)]
  | 54, 4 => [(false, 0), (false, 2), (true, 1), (false, 3), (false, 4), (false, 5), (false, 6)]
  | 58, 6 => [(false, 0), (false, 1), (false, 2), (false, 3), (false, 4), (false, 5), (false, 6), (false, 7), (false, 8), (false, 9)]
  | 59, 6 => [(false, 0), (false, 1), (false, 2), (false, 3), (false, 4), (false, 5), (false, 6), (false, 7), (false, 8), (false, 9)]
  | 64, 6 => [(false, 0), (false, 1), (false, 2), (false, 3), (false, 4), (false, 5), (false, 6), (false, 7), (false, 8), (false, 9), (false, 10), (false, 11)]
  | 83, 6 => [(false, 0), (false, 1), (false, 2), (false, 3), (false, 4), (false, 5), (false, 6), (false, 7), (false, 8)]
  | 84, 6 => [(false, 0), (false, 1), (false, 2), (false, 3), (false, 4), (false, 5), (false, 6), (false, 7), (false, 8)]
  | 90, 4 => [(false, 0), (false, 1), (false, 2), (false, 3), (false, 4), (false, 5), (false, 6), (false, 7), (false, 8), (false, 9), (false, 10), (false, 11), (false, 12), (false, 13), (false, 14), (false, 15), (false, 16), (false, 17), (false, 18), (false, 19), (false, 20), (false, 21), (false, 22), (false, 24), (false, 25), (false, 26), (false, 27), (false, 28), (true, 23), (false, 29), (false, 30)]
  | 92, 4 => [(false, 0), (false, 1), (false, 2), (false, 3), (false, 4), (false, 5), (false, 6), (false, 7), (false, 8), (false, 9), (false, 10), (false, 11), (false, 12), (false, 13), (false, 15), (false, 16), (true, 14), (false, 17), (false, 18)]
  | 94, 1 => [(false, 0), (false, 1), (false, 2), (false, 3), (false, 5), (false, 6), (false, 8), (false, 9), (true, 4), (true, 7), (true, 10), (false, 11), (false, 12)]
  | 97, 1 => [(false, 0), (false, 1), (false, 2), (false, 3), (false, 5), (false, 6), (false, 8), (false, 9), (true, 4), (true, 7), (true, 10), (false, 11), (false, 12)]
  | 111, 6 => [(false, 0), (false, 1), (false, 2), (false, 3), (false, 4), (false, 5), (false, 6), (false, 7), (false, 8), (false, 9)]
  | 113, 5 => [(false, 0), (false, 1), (false, 2), (false, 3), (false, 4), (false, 5), (false, 6), (true, 7), (true, 8), (false, 9), (false, 10), (false, 11)]
  | 114, 5 => [(false, 0), (false, 1), (false, 2), (true, 3), (true, 4), (false, 5), (false, 6), (false, 7)]
  | 121, 1 => [(false, 0), (false, 1), (false, 2), (false, 3), (true, 4), (false, 5), (false, 6)]
  | 123, 13 => [(false, 0), (false, 1), (false, 2), (false, 3), (false, 4), (false, 5), (false, 6), (false, 7), (false, 8), (false, 9), (true, 10), (false, 11), (false, 12), (false, 13)]
  | 124, 12 => [(false, 0), (false, 1), (false, 2), (false, 3), (false, 4), (true, 5), (false, 6), (false, 7), (false, 8), (false, 9), (false, 10), (false, 11), (false, 12), (false, 13), (false, 14), (false, 15), (false, 16), (false, 17), (false, 18), (false, 19)]
  | _, _ => []
def okT : List Nat := [3, 4, 5, 6, 7, 8, 9, 10, 11, 12, 13, 14, 15, 16, 17, 18, 19, 20, 21, 22, 23, 24, 25, 26, 27, 28, 29, 30, 31, 32, 33, 34, 35, 36, 37, 38, 39, 40, 41, 42, 43, 44, 45, 46, 47, 48, 49, 50, 51, 52, 53, 54, 55, 56, 57, 58, 59, 60, 61, 62, 63, 64, 65, 66, 67, 68, 69, 70, 71, 72, 73, 74, 75, 76, 77, 78, 79, 80, 81, 82, 83, 84, 85, 86, 87, 88, 89, 90, 91, 92, 93, 94, 95, 96, 97, 98, 99, 100, 101, 102, 103, 104, 105, 106, 107, 108, 109, 110, 111, 112, 113, 114, 115, 116, 117, 118, 119, 120, 121, 122, 123, 124, 125, 126, 127, 128, 129]
noncomputable def E : Env := { P := Go.Proofs.Try.prog, md := fun _ => [], keep := keepT, kill := fun _ => false, plan := planT, ok := fun f => okT.contains f }
theorem hkill (n : Nat) : E.kill n = false := rfl
theorem hmd (n : Nat) : (E.md n).all (· == .ro) = true := rfl
theorem md_none (n : Nat) : E.md n = [] := rfl
theorem mixed : E.P.follows .mixedOrders = true := by kernel_rfl
/-- One function's check. -/
def good1 (P : Program) (plan : Nat → Nat → List (Bool × Nat)) (f : Nat) : Bool :=
  match P.funcs[f]? with
  | some fn => (match fn.body with | some c => codeOK (plan f) c | none => true) && !(fn.name == "runtime.NumGoroutine")
  | none => true
theorem good1_ok {E : Env} {l : List Nat} (ho : ∀ f, E.ok f = true → f ∈ l) (h : l.all (good1 E.P E.plan) = true) : Sound E := by
  intro f hf fn c hfn hc
  have h1 := List.all_eq_true.1 h f (ho f hf)
  simp -implicitDefEqProofs only [good1, hfn, hc, Bool.and_eq_true, Bool.not_eq_true', beq_eq_false_iff_ne, ne_eq] at h1
  exact h1
theorem sound : Sound E := good1_ok (l := okT) (fun f hf => by simpa [E] using hf) (by kernel_rfl)
abbrev noExt : Nat → Option (List AV → List (List AV) → Option (AV × List (List AV))) := fun _ => none
abbrev tBool : Nat := 4
theorem tagBool : tagOf E.P 4 = .bool := by kernel_rfl
theorem one_ne : (1 = 0) = False := by simp
theorem ti3 : tiOf E.P 3 = some { tag := Tag.int IntKind.i64, agg := false, size := 1, bytes := 8, zero := some (Value.int IntKind.i64 0), elem := 0, fields := [], eqs := none } := by kernel_rfl
theorem ti4 : tiOf E.P 4 = some { tag := Tag.bool, agg := false, size := 1, bytes := 1, zero := some (Value.bool false), elem := 0, fields := [], eqs := none } := by kernel_rfl
theorem ti22 : tiOf E.P 22 = some { tag := Tag.slice, agg := false, size := 1, bytes := 24, zero := some (Value.slice none 0 0), elem := 36, fields := [], eqs := none } := by kernel_rfl
theorem sl22 : isSliceT E.P 22 = true := by kernel_rfl
theorem ti24 : tiOf E.P 24 = some { tag := Tag.struct, agg := true, size := 2, bytes := 32, zero := some (Value.agg #[Value.int IntKind.i64 0, Value.slice none 0 0]), elem := 0, fields := [(0, 1, false), (1, 1, false)], eqs := none } := by kernel_rfl
theorem is24 : isStructT E.P 24 = true := by kernel_rfl
theorem ti27 : tiOf E.P 27 = some { tag := Tag.slice, agg := false, size := 1, bytes := 24, zero := some (Value.slice none 0 0), elem := 43, fields := [], eqs := none } := by kernel_rfl
theorem sl27 : isSliceT E.P 27 = true := by kernel_rfl
theorem ti29 : tiOf E.P 29 = some { tag := Tag.struct, agg := true, size := 2, bytes := 32, zero := some (Value.agg #[Value.int IntKind.i64 0, Value.slice none 0 0]), elem := 0, fields := [(0, 1, false), (1, 1, false)], eqs := none } := by kernel_rfl
theorem is29 : isStructT E.P 29 = true := by kernel_rfl
theorem ti32 : tiOf E.P 32 = some { tag := Tag.slice, agg := false, size := 1, bytes := 24, zero := some (Value.slice none 0 0), elem := 34, fields := [], eqs := none } := by kernel_rfl
theorem sl32 : isSliceT E.P 32 = true := by kernel_rfl
theorem ti34 : tiOf E.P 34 = some { tag := Tag.struct, agg := true, size := 4, bytes := 48, zero := some (Value.agg #[Value.int IntKind.i64 0, Value.int IntKind.i64 0, Value.int IntKind.i64 0, Value.slice none 0 0]), elem := 0, fields := [(0, 1, false), (1, 1, false), (2, 1, false), (3, 1, false)], eqs := none } := by kernel_rfl
theorem is34 : isStructT E.P 34 = true := by kernel_rfl
theorem ti36 : tiOf E.P 36 = some { tag := Tag.struct, agg := true, size := 7, bytes := 72, zero := some (Value.agg #[Value.int IntKind.i64 0, Value.int IntKind.i64 0, Value.int IntKind.i64 0, Value.int IntKind.i64 0, Value.int IntKind.i64 0, Value.int IntKind.i64 0, Value.slice none 0 0]), elem := 0, fields := [(0, 1, false), (1, 1, false), (2, 1, false), (3, 4, true)], eqs := none } := by kernel_rfl
theorem is36 : isStructT E.P 36 = true := by kernel_rfl
theorem ti39 : tiOf E.P 39 = some { tag := Tag.slice, agg := false, size := 1, bytes := 24, zero := some (Value.slice none 0 0), elem := 41, fields := [], eqs := none } := by kernel_rfl
theorem sl39 : isSliceT E.P 39 = true := by kernel_rfl
theorem ti41 : tiOf E.P 41 = some { tag := Tag.struct, agg := true, size := 4, bytes := 48, zero := some (Value.agg #[Value.int IntKind.i64 0, Value.int IntKind.i64 0, Value.int IntKind.i64 0, Value.slice none 0 0]), elem := 0, fields := [(0, 1, false), (1, 1, false), (2, 1, false), (3, 1, false)], eqs := none } := by kernel_rfl
theorem is41 : isStructT E.P 41 = true := by kernel_rfl
theorem ti43 : tiOf E.P 43 = some { tag := Tag.struct, agg := true, size := 7, bytes := 72, zero := some (Value.agg #[Value.int IntKind.i64 0, Value.int IntKind.i64 0, Value.int IntKind.i64 0, Value.int IntKind.i64 0, Value.int IntKind.i64 0, Value.int IntKind.i64 0, Value.slice none 0 0]), elem := 0, fields := [(0, 1, false), (1, 1, false), (2, 1, false), (3, 4, true)], eqs := none } := by kernel_rfl
theorem is43 : isStructT E.P 43 = true := by kernel_rfl
theorem ti47 : tiOf E.P 47 = some { tag := Tag.slice, agg := false, size := 1, bytes := 24, zero := some (Value.slice none 0 0), elem := 63, fields := [], eqs := none } := by kernel_rfl
theorem sl47 : isSliceT E.P 47 = true := by kernel_rfl
theorem ti50 : tiOf E.P 50 = some { tag := Tag.slice, agg := false, size := 1, bytes := 24, zero := some (Value.slice none 0 0), elem := 68, fields := [], eqs := none } := by kernel_rfl
theorem sl50 : isSliceT E.P 50 = true := by kernel_rfl
theorem ti61 : tiOf E.P 61 = some { tag := Tag.slice, agg := false, size := 1, bytes := 24, zero := some (Value.slice none 0 0), elem := 111, fields := [], eqs := none } := by kernel_rfl
theorem sl61 : isSliceT E.P 61 = true := by kernel_rfl
theorem ti63 : tiOf E.P 63 = some { tag := Tag.struct, agg := true, size := 5, bytes := 72, zero := some (Value.agg #[Value.int IntKind.i64 0, Value.int IntKind.i64 0, Value.slice none 0 0, Value.int IntKind.i64 0, Value.slice none 0 0]), elem := 0, fields := [(0, 1, false), (1, 1, false), (2, 1, false), (3, 2, true)], eqs := none } := by kernel_rfl
theorem is63 : isStructT E.P 63 = true := by kernel_rfl
theorem ti66 : tiOf E.P 66 = some { tag := Tag.slice, agg := false, size := 1, bytes := 24, zero := some (Value.slice none 0 0), elem := 103, fields := [], eqs := none } := by kernel_rfl
theorem sl66 : isSliceT E.P 66 = true := by kernel_rfl
theorem ti68 : tiOf E.P 68 = some { tag := Tag.struct, agg := true, size := 5, bytes := 72, zero := some (Value.agg #[Value.int IntKind.i64 0, Value.int IntKind.i64 0, Value.slice none 0 0, Value.int IntKind.i64 0, Value.slice none 0 0]), elem := 0, fields := [(0, 1, false), (1, 1, false), (2, 1, false), (3, 2, true)], eqs := none } := by kernel_rfl
theorem is68 : isStructT E.P 68 = true := by kernel_rfl
theorem ti72 : tiOf E.P 72 = some { tag := Tag.struct, agg := true, size := 3, bytes := 24, zero := some (Value.agg #[Value.int IntKind.i64 0, Value.int IntKind.i64 0, Value.int IntKind.i64 0]), elem := 0, fields := [(0, 1, false), (1, 1, false), (2, 1, false)], eqs := some [0, 0, 0] } := by kernel_rfl
theorem is72 : isStructT E.P 72 = true := by kernel_rfl
theorem ti103 : tiOf E.P 103 = some { tag := Tag.struct, agg := true, size := 2, bytes := 16, zero := some (Value.agg #[Value.int IntKind.i64 0, Value.int IntKind.i64 0]), elem := 0, fields := [(0, 1, false), (1, 1, false)], eqs := some [0, 0] } := by kernel_rfl
theorem is103 : isStructT E.P 103 = true := by kernel_rfl
theorem ti111 : tiOf E.P 111 = some { tag := Tag.struct, agg := true, size := 2, bytes := 16, zero := some (Value.agg #[Value.int IntKind.i64 0, Value.int IntKind.i64 0]), elem := 0, fields := [(0, 1, false), (1, 1, false)], eqs := some [0, 0] } := by kernel_rfl
theorem is111 : isStructT E.P 111 = true := by kernel_rfl
theorem ti123 : tiOf E.P 123 = some { tag := Tag.slice, agg := false, size := 1, bytes := 24, zero := some (Value.slice none 0 0), elem := 3, fields := [], eqs := none } := by kernel_rfl
theorem sl123 : isSliceT E.P 123 = true := by kernel_rfl
theorem ti125 : tiOf E.P 125 = some { tag := Tag.array 6, agg := true, size := 6, bytes := 6, zero := some (Value.agg #[Value.bool false, Value.bool false, Value.bool false, Value.bool false, Value.bool false, Value.bool false]), elem := 4, fields := [], eqs := none } := by kernel_rfl
theorem ti129 : tiOf E.P 129 = some { tag := Tag.slice, agg := false, size := 1, bytes := 24, zero := some (Value.slice none 0 0), elem := 4, fields := [], eqs := none } := by kernel_rfl
theorem sl129 : isSliceT E.P 129 = true := by kernel_rfl
theorem plan_3_8 : E.plan 3 8 = [(false, 0), (false, 2), (true, 1), (false, 3), (false, 4), (false, 5)] := rfl
theorem plan_3_14 : E.plan 3 14 = [(false, 0), (false, 1), (true, 2), (false, 3), (false, 4)] := rfl
theorem plan_3_16 : E.plan 3 16 = [(false, 0), (false, 1), (true, 2), (false, 3), (false, 4)] := rfl
theorem plan_4_10 : E.plan 4 10 = [(false, 0), (false, 1), (true, 2), (false, 3), (false, 4)] := rfl
theorem plan_8_10 : E.plan 8 10 = [(false, 0), (false, 1), (true, 2), (false, 3), (false, 4)] := rfl
theorem plan_9_10 : E.plan 9 10 = [(false, 0), (false, 1), (true, 2), (false, 3), (false, 4)] := rfl
theorem plan_10_8 : E.plan 10 8 = [(false, 0), (false, 2), (true, 1), (false, 3), (false, 4), (false, 5)] := rfl
theorem plan_10_14 : E.plan 10 14 = [(false, 0), (false, 1), (true, 2), (false, 3), (false, 4)] := rfl
theorem plan_10_16 : E.plan 10 16 = [(false, 0), (false, 1), (true, 2), (false, 3), (false, 4)] := rfl
theorem plan_12_10 : E.plan 12 10 = [(false, 0), (false, 1), (true, 2), (false, 3), (false, 4)] := rfl
theorem plan_29_6 : E.plan 29 6 = [(false, 0), (false, 1), (false, 2), (false, 3), (false, 4), (false, 5), (false, 6), (false, 7), (false, 8), (false, 9)] := rfl
theorem plan_36_3 : E.plan 36 3 = [(false, 1), (false, 2), (false, 3), (false, 4), (false, 6), (false, 7), (false, 8), (false, 9), (false, 10), (true, 0), (true, 5), (false, 11), (false, 12), (false, 13)] := rfl
theorem plan_50_4 : E.plan 50 4 = [(false, 0), (false, 1), (false, 2), (false, 3), (false, 4), (false, 5), (false, 6), (false, 7), (false, 8), (false, 9), (false, 10), (false, 11), (false, 12), (false, 13), (false, 14), (false, 15), (false, 16), (false, 17), (false, 18), (false, 19), (false, 20), (false, 21), (false, 22), (false, 23), (false, 24), (false, 25), (false, 26), (false, 27), (false, 28), (false, 29), (false, 30), (false, 31), (false, 32), (false, 33), (false, 34), (false, 35), (false, 36), (false, 37)] := rfl
theorem plan_51_4 : E.plan 51 4 = [(false, 0), (false, 1), (false, 2), (false, 3), (false, 4), (false, 5), (false, 6), (false, 7), (false, 8), (false, 9), (false, 10), (false, 11), (false, 12), (false, 13), (false, 14), (false, 15), (false, 16), (false, 17), (false, 18), (false, 19), (false, 20), (false, 21), (false, 22), (false, 23), (false, 24), (false, 25), (false, 26), (false, 27), (false, 28)] := rfl
theorem plan_54_4 : E.plan 54 4 = [(false, 0), (false, 2), (true, 1), (false, 3), (false, 4), (false, 5), (false, 6)] := rfl
theorem plan_58_6 : E.plan 58 6 = [(false, 0), (false, 1), (false, 2), (false, 3), (false, 4), (false, 5), (false, 6), (false, 7), (false, 8), (false, 9)] := rfl
theorem plan_59_6 : E.plan 59 6 = [(false, 0), (false, 1), (false, 2), (false, 3), (false, 4), (false, 5), (false, 6), (false, 7), (false, 8), (false, 9)] := rfl
theorem plan_64_6 : E.plan 64 6 = [(false, 0), (false, 1), (false, 2), (false, 3), (false, 4), (false, 5), (false, 6), (false, 7), (false, 8), (false, 9), (false, 10), (false, 11)] := rfl
theorem plan_83_6 : E.plan 83 6 = [(false, 0), (false, 1), (false, 2), (false, 3), (false, 4), (false, 5), (false, 6), (false, 7), (false, 8)] := rfl
theorem plan_84_6 : E.plan 84 6 = [(false, 0), (false, 1), (false, 2), (false, 3), (false, 4), (false, 5), (false, 6), (false, 7), (false, 8)] := rfl
theorem plan_90_4 : E.plan 90 4 = [(false, 0), (false, 1), (false, 2), (false, 3), (false, 4), (false, 5), (false, 6), (false, 7), (false, 8), (false, 9), (false, 10), (false, 11), (false, 12), (false, 13), (false, 14), (false, 15), (false, 16), (false, 17), (false, 18), (false, 19), (false, 20), (false, 21), (false, 22), (false, 24), (false, 25), (false, 26), (false, 27), (false, 28), (true, 23), (false, 29), (false, 30)] := rfl
theorem plan_92_4 : E.plan 92 4 = [(false, 0), (false, 1), (false, 2), (false, 3), (false, 4), (false, 5), (false, 6), (false, 7), (false, 8), (false, 9), (false, 10), (false, 11), (false, 12), (false, 13), (false, 15), (false, 16), (true, 14), (false, 17), (false, 18)] := rfl
theorem plan_94_1 : E.plan 94 1 = [(false, 0), (false, 1), (false, 2), (false, 3), (false, 5), (false, 6), (false, 8), (false, 9), (true, 4), (true, 7), (true, 10), (false, 11), (false, 12)] := rfl
theorem plan_97_1 : E.plan 97 1 = [(false, 0), (false, 1), (false, 2), (false, 3), (false, 5), (false, 6), (false, 8), (false, 9), (true, 4), (true, 7), (true, 10), (false, 11), (false, 12)] := rfl
theorem plan_111_6 : E.plan 111 6 = [(false, 0), (false, 1), (false, 2), (false, 3), (false, 4), (false, 5), (false, 6), (false, 7), (false, 8), (false, 9)] := rfl
theorem plan_113_5 : E.plan 113 5 = [(false, 0), (false, 1), (false, 2), (false, 3), (false, 4), (false, 5), (false, 6), (true, 7), (true, 8), (false, 9), (false, 10), (false, 11)] := rfl
theorem plan_114_5 : E.plan 114 5 = [(false, 0), (false, 1), (false, 2), (true, 3), (true, 4), (false, 5), (false, 6), (false, 7)] := rfl
theorem plan_121_1 : E.plan 121 1 = [(false, 0), (false, 1), (false, 2), (false, 3), (true, 4), (false, 5), (false, 6)] := rfl
theorem plan_123_13 : E.plan 123 13 = [(false, 0), (false, 1), (false, 2), (false, 3), (false, 4), (false, 5), (false, 6), (false, 7), (false, 8), (false, 9), (true, 10), (false, 11), (false, 12), (false, 13)] := rfl
theorem plan_124_12 : E.plan 124 12 = [(false, 0), (false, 1), (false, 2), (false, 3), (false, 4), (true, 5), (false, 6), (false, 7), (false, 8), (false, 9), (false, 10), (false, 11), (false, 12), (false, 13), (false, 14), (false, 15), (false, 16), (false, 17), (false, 18), (false, 19)] := rfl
theorem keep_16_4 : E.keep 16 4 = [2, 3, 5] := rfl
theorem keep_25_5 : E.keep 25 5 = [0, 1, 5] := rfl
theorem keep_27_3 : E.keep 27 3 = [0, 3, 4] := rfl
theorem keep_29_4 : E.keep 29 4 = [0, 1, 5] := rfl
theorem keep_30_3 : E.keep 30 3 = [0, 1, 5, 6] := rfl
theorem keep_31_3 : E.keep 31 3 = [1, 5, 8, 9, 10] := rfl
theorem keep_32_2 : E.keep 32 2 = [0, 1, 5] := rfl
theorem keep_34_2 : E.keep 34 2 = [1, 3] := rfl
theorem keep_37_3 : E.keep 37 3 = [1, 4, 5, 13, 14, 15] := rfl
theorem keep_50_2 : E.keep 50 2 = [0, 3] := rfl
theorem keep_51_2 : E.keep 51 2 = [0, 5, 6, 7] := rfl
theorem keep_53_5 : E.keep 53 5 = [0, 1, 5] := rfl
theorem keep_55_3 : E.keep 55 3 = [0, 3, 4] := rfl
theorem keep_56_3 : E.keep 56 3 = [0, 3, 4] := rfl
theorem keep_58_4 : E.keep 58 4 = [0, 1, 5] := rfl
theorem keep_59_4 : E.keep 59 4 = [0, 1, 5] := rfl
theorem keep_60_2 : E.keep 60 2 = [0, 1, 5] := rfl
theorem keep_61_2 : E.keep 61 2 = [0, 1, 5] := rfl
theorem keep_62_2 : E.keep 62 2 = [0, 1, 5] := rfl
theorem keep_63_2 : E.keep 63 2 = [0, 1, 5] := rfl
theorem keep_64_4 : E.keep 64 4 = [2, 3, 5] := rfl
theorem keep_65_4 : E.keep 65 4 = [1, 2, 15, 16, 17] := rfl
theorem keep_76_2 : E.keep 76 2 = [0, 1, 7, 8] := rfl
theorem keep_80_3 : E.keep 80 3 = [1, 2, 3, 4] := rfl
theorem keep_81_3 : E.keep 81 3 = [3, 7, 8, 9] := rfl
theorem keep_82_2 : E.keep 82 2 = [0, 1, 5] := rfl
theorem keep_83_4 : E.keep 83 4 = [0, 1, 5] := rfl
theorem keep_84_4 : E.keep 84 4 = [0, 1, 12, 13] := rfl
theorem keep_90_2 : E.keep 90 2 = [0, 3] := rfl
theorem keep_92_2 : E.keep 92 2 = [0, 5, 6, 7] := rfl
theorem keep_93_3 : E.keep 93 3 = [0, 3, 4] := rfl
theorem keep_96_3 : E.keep 96 3 = [3, 7, 8, 9] := rfl
theorem keep_99_2 : E.keep 99 2 = [0, 1, 5] := rfl
theorem keep_100_2 : E.keep 100 2 = [0, 1, 5] := rfl
theorem keep_102_5 : E.keep 102 5 = [0, 1, 5] := rfl
theorem keep_104_3 : E.keep 104 3 = [1, 2, 5] := rfl
theorem keep_105_4 : E.keep 105 4 = [1, 3] := rfl
theorem keep_106_3 : E.keep 106 3 = [0, 3, 4] := rfl
theorem keep_109_3 : E.keep 109 3 = [3, 7, 8, 9] := rfl
theorem keep_111_4 : E.keep 111 4 = [0, 1, 5] := rfl
theorem keep_112_2 : E.keep 112 2 = [0, 1, 7, 8] := rfl
theorem keep_113_3 : E.keep 113 3 = [1, 2, 3, 4] := rfl
theorem keep_114_3 : E.keep 114 3 = [2, 3, 14, 15, 16] := rfl
theorem keep_115_2 : E.keep 115 2 = [0, 1, 5] := rfl
theorem keep_117_2 : E.keep 117 2 = [0, 1, 5] := rfl
theorem keep_118_15 : E.keep 118 15 = [5, 6, 9] := rfl
theorem keep_118_10 : E.keep 118 10 = [0, 5, 6, 7, 8] := rfl
theorem keep_118_7 : E.keep 118 7 = [0, 5, 6, 7] := rfl
theorem keep_120_7 : E.keep 120 7 = [0, 4, 5, 6, 7, 21, 22, 23] := rfl
theorem keep_120_3 : E.keep 120 3 = [0, 4, 5, 6] := rfl
theorem keep_122_4 : E.keep 122 4 = [1, 2, 15, 16, 17] := rfl
theorem keep_129_2 : E.keep 129 2 = [0, 1, 7, 8] := rfl
theorem TIS : type_of% (And.intro (And.intro (And.intro (And.intro (And.intro @ti3 @ti4) (And.intro @ti22 (And.intro @sl22 @ti24))) (And.intro (And.intro @is24 (And.intro @ti27 @sl27)) (And.intro @ti29 (And.intro @is29 @ti32)))) (And.intro (And.intro (And.intro @sl32 @ti34) (And.intro @is34 (And.intro @ti36 @is36))) (And.intro (And.intro @ti39 (And.intro @sl39 @ti41)) (And.intro @is41 (And.intro @ti43 @is43))))) (And.intro (And.intro (And.intro (And.intro @ti47 @sl47) (And.intro @ti50 (And.intro @sl50 @ti61))) (And.intro (And.intro @sl61 (And.intro @ti63 @is63)) (And.intro @ti66 (And.intro @sl66 @ti68)))) (And.intro (And.intro (And.intro @is68 (And.intro @ti72 @is72)) (And.intro @ti103 (And.intro @is103 @ti111))) (And.intro (And.intro @is111 (And.intro @ti123 @sl123)) (And.intro @ti125 (And.intro @ti129 @sl129)))))) := (And.intro (And.intro (And.intro (And.intro (And.intro @ti3 @ti4) (And.intro @ti22 (And.intro @sl22 @ti24))) (And.intro (And.intro @is24 (And.intro @ti27 @sl27)) (And.intro @ti29 (And.intro @is29 @ti32)))) (And.intro (And.intro (And.intro @sl32 @ti34) (And.intro @is34 (And.intro @ti36 @is36))) (And.intro (And.intro @ti39 (And.intro @sl39 @ti41)) (And.intro @is41 (And.intro @ti43 @is43))))) (And.intro (And.intro (And.intro (And.intro @ti47 @sl47) (And.intro @ti50 (And.intro @sl50 @ti61))) (And.intro (And.intro @sl61 (And.intro @ti63 @is63)) (And.intro @ti66 (And.intro @sl66 @ti68)))) (And.intro (And.intro (And.intro @is68 (And.intro @ti72 @is72)) (And.intro @ti103 (And.intro @is103 @ti111))) (And.intro (And.intro @is111 (And.intro @ti123 @sl123)) (And.intro @ti125 (And.intro @ti129 @sl129))))))
end Go.Proofs.Ytkcapoambnnekaa.Flat
