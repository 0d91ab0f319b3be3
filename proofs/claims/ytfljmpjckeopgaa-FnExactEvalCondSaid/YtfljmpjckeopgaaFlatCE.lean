/-
The program's functions, and how they are reckoned with: tables.
-/
import Derived.Test.YtfljmpjckeopgaaFlatM5
import Derived.Test.YtfljmpjckeopgaaFlatM4
import Derived.Test.YtfljmpjckeopgaaProg
import Derived.KernelRfl
set_option linter.unusedVariables false
set_option linter.unusedSimpArgs false
namespace Go.Proofs.Ytfljmpjckeopgaa.Flat
def keepT : Nat → Nat → List Nat
  | 9, 3 => [0, 3, 4]
  | 10, 3 => [0, 3, 4]
  | 14, 4 => [0, 1, 5]
  | 15, 4 => [0, 1, 5]
  | 19, 5 => [0, 1, 5]
  | 21, 2 => [0, 1, 2, 3, 4, 5, 13]
  | 22, 3 => [0, 1, 2, 3, 4, 11, 12]
  | 25, 3 => [0, 3, 4]
  | 28, 3 => [1, 2, 3, 4, 11, 14, 15, 16]
  | 31, 4 => [0, 1, 5]
  | 37, 2 => [0, 1, 5]
  | 38, 13 => [11, 15, 16]
  | 38, 8 => [0, 1, 2, 3, 4, 11, 12, 13, 14]
  | 38, 3 => [0, 1, 2, 3, 4, 11, 12]
  | 42, 3 => [0, 2, 3, 4, 11, 15, 16, 17]
  | 43, 2 => [0, 1, 7, 8]
  | 46, 3 => [1, 2, 5]
  | 47, 4 => [1, 3]
  | 48, 3 => [3, 7, 8, 9]
  | 50, 15 => [5, 6, 9]
  | 50, 10 => [0, 5, 6, 7, 8]
  | 50, 7 => [0, 5, 6, 7]
  | 54, 2 => [0, 1, 7, 8]
  | 55, 5 => [1, 5, 15, 16]
  | 70, 7 => [0, 4, 5, 6, 7, 21, 22, 23]
  | 70, 3 => [0, 4, 5, 6]
  | 78, 2 => [0, 1, 7, 8]
  | _, _ => []
def planT : Nat → Nat → List (Bool × Nat)
  | 3, 11 => [(false, 0), (false, 2), (false, 4), (false, 6), (true, 1), (true, 3), (true, 5), (false, 7), (false, 8), (false, 9)]
  | 3, 15 => [(false, 0), (false, 1), (false, 2), (false, 3), (true, 4), (false, 5), (false, 6)]
  | 3, 22 => [(false, 0), (false, 1), (true, 2), (false, 3), (false, 4)]
  | 4, 11 => [(false, 0), (false, 2), (false, 4), (false, 6), (true, 1), (true, 3), (true, 5), (false, 7), (false, 8), (false, 9)]
  | 4, 15 => [(false, 0), (false, 1), (false, 2), (false, 3), (true, 4), (false, 5), (false, 6)]
  | 4, 22 => [(false, 0), (false, 1), (true, 2), (false, 3), (false, 4)]
  | 8, 9 => [(false, 0), (false, 1), (false, 2), (false, 3), (false, 4), (false, 5), (false, 6), (false, 8), (false, 9), (true, 7), (false, 10), (false, 11)]
  | 8, 11 => [(false, 0), (false, 1), (false, 2), (false, 3), (false, 4), (false, 5), (false, 6), (false, 8), (false, 9), (true, 7), (false, 10), (false, 11)]
  | 13, 9 => [(false, 0), (false, 1), (false, 2), (false, 3), (false, 4), (false, 5), (false, 6), (false, 8), (false, 9), (true, 7), (false, 10), (false, 11)]
  | 13, 11 => [(false, 0), (false, 1), (false, 2), (false, 3), (false, 4), (false, 5), (false, 6), (false, 8), (false, 9), (true, 7), (false, 10), (false, 11)]
  | 14, 6 => [(false, 0), (false, 1), (false, 2), (false, 3), (false, 4), (false, 5), (false, 6), (false, 7), (false, 8), (false, 9)]
  | 15, 6 => [(false, 0), (false, 1), (false, 2), (false, 3), (false, 4), (false, 5), (false, 6), (false, 7), (false, 8), (false, 9)]
  | 31, 6 => [(false, 0), (false, 1), (false, 2), (false, 3), (false, 4), (false, 5), (false, 6), (false, 7), (false, 8), (false, 9)]
  | 33, 3 => [(false, 0), (false, 1), (false, 2), (false, 3), (false, 4), (false, 5), (false, 6), (false, 7), (false, 8), (false, 9)]
  | 33, 5 => [(false, 0), (false, 1), (false, 2), (false, 3), (false, 4), (false, 5), (false, 6), (false, 7), (false, 8), (false, 9), (false, 10), (false, 11), (false, 12), (false, 13), (false, 14), (false, 15), (false, 16), (false, 17), (false, 18)]
  | 33, 7 => [(false, 0), (false, 1), (false, 2), (false, 3), (false, 4), (false, 5), (false, 6), (false, 7), (false, 8), (false, 9), (false, 10), (false, 11), (false, 12), (false, 13), (false, 14), (false, 15), (false, 16), (false, 17), (false, 18)]
  | 61, 13 => [(false, 0), (false, 1), (false, 2), (false, 3), (false, 4), (false, 5), (false, 6), (false, 7), (false, 8), (false, 9), (true, 10), (false, 11), (false, 12), (false, 13)]
  | 62, 12 => [(false, 0), (false, 1), (false, 2), (false, 3), (false, 4), (true, 5), (false, 6), (false, 7), (false, 8), (false, 9), (false, 10), (false, 11), (false, 12), (false, 13), (false, 14), (false, 15), (false, 16), (false, 17), (false, 18), (false, 19)]
  | _, _ => []
def okT : List Nat := [3, 4, 5, 6, 7, 8, 9, 10, 11, 12, 13, 14, 15, 16, 17, 18, 19, 20, 21, 22, 23, 24, 25, 26, 27, 28, 29, 30, 31, 32, 33, 34, 35, 36, 37, 38, 39, 40, 41, 42, 43, 44, 45, 46, 47, 48, 49, 50, 51, 52, 53, 54, 55, 58, 59, 60, 61, 62, 63, 64, 65, 66, 67, 68, 69, 70, 73, 74, 75, 76, 77, 78, 79, 91, 98, 99]
def treeT : List Nat := []
def mdT : Nat → List Mode
  | 56 => [.«mut»]
  | 57 => [.give]
  | _ => []
noncomputable def E : Env := { P := Go.Proofs.Try.prog, md := mdT, keep := keepT, plan := planT, ok := fun f => okT.contains f, tree := fun f => treeT.contains f }
theorem mixed : E.P.follows .mixedOrders = true := by kernel_rfl
/-- One function's check. -/
def good1 (P : Program) (plan : Nat → Nat → List (Bool × Nat)) (md : Nat → List Mode) (f : Nat) : Bool :=
  match P.funcs[f]? with
  | some fn => (match fn.body with | some c => codeOK (plan f) c && codePin (mutSlots 0 (md f)) c | none => true) && !(fn.name == "runtime.NumGoroutine")
  | none => true
theorem good1_ok {E : Env} {l : List Nat} (ho : ∀ f, E.ok f = true → f ∈ l) (h : l.all (good1 E.P E.plan E.md) = true) : Sound E := by
  intro f hf fn c hfn hc
  have h1 := List.all_eq_true.1 h f (ho f hf)
  simp -implicitDefEqProofs only [good1, hfn, hc, Bool.and_eq_true, Bool.not_eq_true', beq_eq_false_iff_ne, ne_eq] at h1
  exact ⟨h1.1.1, h1.2, h1.1.2⟩
theorem sound : Sound E := good1_ok (l := okT) (fun f hf => by simpa [E] using hf) (by kernel_rfl)
/-- Functions of the library that are not entered. -/
def extT : Nat → Option (List AV → List (List AV) → Option (AV × List (List AV)))
  | 56 => some sortExt
  | 57 => some compactExt
  | _ => none
abbrev noExt : Nat → Option (List AV → List (List AV) → Option (AV × List (List AV))) := extT
theorem ext_56 : noExt 56 = some sortExt := rfl
theorem ext_57 : noExt 57 = some compactExt := rfl
abbrev nSort : Nat := 56
abbrev nCompact : Nat := 57
abbrev tBool : Nat := 4
theorem tagBool : tagOf E.P 4 = .bool := by kernel_rfl
theorem one_ne : (1 = 0) = False := by simp
theorem ti3 : tiOf E.P 3 = some { tag := Tag.int IntKind.i64, agg := false, size := 1, bytes := 8, zero := some (Value.int IntKind.i64 0), elem := 0, fields := [], eqs := none } := by kernel_rfl
theorem ti4 : tiOf E.P 4 = some { tag := Tag.bool, agg := false, size := 1, bytes := 1, zero := some (Value.bool false), elem := 0, fields := [], eqs := none } := by kernel_rfl
theorem ti22 : tiOf E.P 22 = some { tag := Tag.slice, agg := false, size := 1, bytes := 24, zero := some (Value.slice none 0 0), elem := 54, fields := [], eqs := none } := by kernel_rfl
theorem sl22 : isSliceT E.P 22 = true := by kernel_rfl
theorem ti23 : tiOf E.P 23 = some { tag := Tag.slice, agg := false, size := 1, bytes := 24, zero := some (Value.slice none 0 0), elem := 58, fields := [], eqs := none } := by kernel_rfl
theorem sl23 : isSliceT E.P 23 = true := by kernel_rfl
theorem ti24 : tiOf E.P 24 = some { tag := Tag.slice, agg := false, size := 1, bytes := 24, zero := some (Value.slice none 0 0), elem := 26, fields := [], eqs := none } := by kernel_rfl
theorem sl24 : isSliceT E.P 24 = true := by kernel_rfl
theorem ti26 : tiOf E.P 26 = some { tag := Tag.struct, agg := true, size := 4, bytes := 48, zero := some (Value.agg #[Value.int IntKind.i64 0, Value.int IntKind.i64 0, Value.int IntKind.i64 0, Value.slice none 0 0]), elem := 0, fields := [(0, 1, false), (1, 1, false), (2, 1, false), (3, 1, false)], eqs := none } := by kernel_rfl
theorem is26 : isStructT E.P 26 = true := by kernel_rfl
theorem ti28 : tiOf E.P 28 = some { tag := Tag.struct, agg := true, size := 6, bytes := 48, zero := some (Value.agg #[Value.int IntKind.i64 0, Value.int IntKind.i64 0, Value.int IntKind.i64 0, Value.int IntKind.i64 0, Value.int IntKind.i64 0, Value.int IntKind.i64 0]), elem := 0, fields := [(0, 1, false), (1, 1, false), (2, 1, false), (3, 1, false), (4, 1, false), (5, 1, false)], eqs := some [0, 0, 0, 0, 0, 0] } := by kernel_rfl
theorem is28 : isStructT E.P 28 = true := by kernel_rfl
theorem ti33 : tiOf E.P 33 = some { tag := Tag.slice, agg := false, size := 1, bytes := 24, zero := some (Value.slice none 0 0), elem := 52, fields := [], eqs := none } := by kernel_rfl
theorem sl33 : isSliceT E.P 33 = true := by kernel_rfl
theorem ti35 : tiOf E.P 35 = some { tag := Tag.slice, agg := false, size := 1, bytes := 24, zero := some (Value.slice none 0 0), elem := 56, fields := [], eqs := none } := by kernel_rfl
theorem sl35 : isSliceT E.P 35 = true := by kernel_rfl
theorem ti37 : tiOf E.P 37 = some { tag := Tag.slice, agg := false, size := 1, bytes := 24, zero := some (Value.slice none 0 0), elem := 39, fields := [], eqs := none } := by kernel_rfl
theorem sl37 : isSliceT E.P 37 = true := by kernel_rfl
theorem ti39 : tiOf E.P 39 = some { tag := Tag.struct, agg := true, size := 4, bytes := 48, zero := some (Value.agg #[Value.int IntKind.i64 0, Value.int IntKind.i64 0, Value.int IntKind.i64 0, Value.slice none 0 0]), elem := 0, fields := [(0, 1, false), (1, 1, false), (2, 1, false), (3, 1, false)], eqs := none } := by kernel_rfl
theorem is39 : isStructT E.P 39 = true := by kernel_rfl
theorem ti41 : tiOf E.P 41 = some { tag := Tag.struct, agg := true, size := 6, bytes := 48, zero := some (Value.agg #[Value.int IntKind.i64 0, Value.int IntKind.i64 0, Value.int IntKind.i64 0, Value.int IntKind.i64 0, Value.int IntKind.i64 0, Value.int IntKind.i64 0]), elem := 0, fields := [(0, 1, false), (1, 1, false), (2, 1, false), (3, 1, false), (4, 1, false), (5, 1, false)], eqs := some [0, 0, 0, 0, 0, 0] } := by kernel_rfl
theorem is41 : isStructT E.P 41 = true := by kernel_rfl
theorem ti52 : tiOf E.P 52 = some { tag := Tag.struct, agg := true, size := 2, bytes := 16, zero := some (Value.agg #[Value.int IntKind.i64 0, Value.int IntKind.i64 0]), elem := 0, fields := [(0, 1, false), (1, 1, false)], eqs := some [0, 0] } := by kernel_rfl
theorem is52 : isStructT E.P 52 = true := by kernel_rfl
theorem ti54 : tiOf E.P 54 = some { tag := Tag.struct, agg := true, size := 2, bytes := 16, zero := some (Value.agg #[Value.int IntKind.i64 0, Value.int IntKind.i64 0]), elem := 0, fields := [(0, 1, false), (1, 1, false)], eqs := some [0, 0] } := by kernel_rfl
theorem is54 : isStructT E.P 54 = true := by kernel_rfl
theorem ti56 : tiOf E.P 56 = some { tag := Tag.struct, agg := true, size := 6, bytes := 48, zero := some (Value.agg #[Value.int IntKind.i64 0, Value.int IntKind.i64 0, Value.int IntKind.i64 0, Value.int IntKind.i64 0, Value.int IntKind.i64 0, Value.int IntKind.i64 0]), elem := 0, fields := [(0, 1, false), (1, 1, false), (2, 1, false), (3, 1, false), (4, 1, false), (5, 1, false)], eqs := some [0, 0, 0, 0, 0, 0] } := by kernel_rfl
theorem is56 : isStructT E.P 56 = true := by kernel_rfl
theorem ti58 : tiOf E.P 58 = some { tag := Tag.struct, agg := true, size := 6, bytes := 48, zero := some (Value.agg #[Value.int IntKind.i64 0, Value.int IntKind.i64 0, Value.int IntKind.i64 0, Value.int IntKind.i64 0, Value.int IntKind.i64 0, Value.int IntKind.i64 0]), elem := 0, fields := [(0, 1, false), (1, 1, false), (2, 1, false), (3, 1, false), (4, 1, false), (5, 1, false)], eqs := some [0, 0, 0, 0, 0, 0] } := by kernel_rfl
theorem is58 : isStructT E.P 58 = true := by kernel_rfl
theorem ti66 : tiOf E.P 66 = some { tag := Tag.slice, agg := false, size := 1, bytes := 24, zero := some (Value.slice none 0 0), elem := 3, fields := [], eqs := none } := by kernel_rfl
theorem sl66 : isSliceT E.P 66 = true := by kernel_rfl
theorem ti74 : tiOf E.P 74 = some { tag := Tag.slice, agg := false, size := 1, bytes := 24, zero := some (Value.slice none 0 0), elem := 4, fields := [], eqs := none } := by kernel_rfl
theorem sl74 : isSliceT E.P 74 = true := by kernel_rfl
theorem ti83 : tiOf E.P 83 = some { tag := Tag.array 6, agg := true, size := 6, bytes := 6, zero := some (Value.agg #[Value.bool false, Value.bool false, Value.bool false, Value.bool false, Value.bool false, Value.bool false]), elem := 4, fields := [], eqs := none } := by kernel_rfl
theorem na83 : isSliceT E.P 83 = false := by kernel_rfl
theorem ar83 : isArrayT E.P 83 = some 6 := by kernel_rfl
theorem ns83 : isStructT E.P 83 = false := by kernel_rfl
theorem plan_3_11 : E.plan 3 11 = [(false, 0), (false, 2), (false, 4), (false, 6), (true, 1), (true, 3), (true, 5), (false, 7), (false, 8), (false, 9)] := rfl
theorem plan_3_15 : E.plan 3 15 = [(false, 0), (false, 1), (false, 2), (false, 3), (true, 4), (false, 5), (false, 6)] := rfl
theorem plan_3_22 : E.plan 3 22 = [(false, 0), (false, 1), (true, 2), (false, 3), (false, 4)] := rfl
theorem plan_4_11 : E.plan 4 11 = [(false, 0), (false, 2), (false, 4), (false, 6), (true, 1), (true, 3), (true, 5), (false, 7), (false, 8), (false, 9)] := rfl
theorem plan_4_15 : E.plan 4 15 = [(false, 0), (false, 1), (false, 2), (false, 3), (true, 4), (false, 5), (false, 6)] := rfl
theorem plan_4_22 : E.plan 4 22 = [(false, 0), (false, 1), (true, 2), (false, 3), (false, 4)] := rfl
theorem plan_8_9 : E.plan 8 9 = [(false, 0), (false, 1), (false, 2), (false, 3), (false, 4), (false, 5), (false, 6), (false, 8), (false, 9), (true, 7), (false, 10), (false, 11)] := rfl
theorem plan_8_11 : E.plan 8 11 = [(false, 0), (false, 1), (false, 2), (false, 3), (false, 4), (false, 5), (false, 6), (false, 8), (false, 9), (true, 7), (false, 10), (false, 11)] := rfl
theorem plan_13_9 : E.plan 13 9 = [(false, 0), (false, 1), (false, 2), (false, 3), (false, 4), (false, 5), (false, 6), (false, 8), (false, 9), (true, 7), (false, 10), (false, 11)] := rfl
theorem plan_13_11 : E.plan 13 11 = [(false, 0), (false, 1), (false, 2), (false, 3), (false, 4), (false, 5), (false, 6), (false, 8), (false, 9), (true, 7), (false, 10), (false, 11)] := rfl
theorem plan_14_6 : E.plan 14 6 = [(false, 0), (false, 1), (false, 2), (false, 3), (false, 4), (false, 5), (false, 6), (false, 7), (false, 8), (false, 9)] := rfl
theorem plan_15_6 : E.plan 15 6 = [(false, 0), (false, 1), (false, 2), (false, 3), (false, 4), (false, 5), (false, 6), (false, 7), (false, 8), (false, 9)] := rfl
theorem plan_31_6 : E.plan 31 6 = [(false, 0), (false, 1), (false, 2), (false, 3), (false, 4), (false, 5), (false, 6), (false, 7), (false, 8), (false, 9)] := rfl
theorem plan_33_3 : E.plan 33 3 = [(false, 0), (false, 1), (false, 2), (false, 3), (false, 4), (false, 5), (false, 6), (false, 7), (false, 8), (false, 9)] := rfl
theorem plan_33_5 : E.plan 33 5 = [(false, 0), (false, 1), (false, 2), (false, 3), (false, 4), (false, 5), (false, 6), (false, 7), (false, 8), (false, 9), (false, 10), (false, 11), (false, 12), (false, 13), (false, 14), (false, 15), (false, 16), (false, 17), (false, 18)] := rfl
theorem plan_33_7 : E.plan 33 7 = [(false, 0), (false, 1), (false, 2), (false, 3), (false, 4), (false, 5), (false, 6), (false, 7), (false, 8), (false, 9), (false, 10), (false, 11), (false, 12), (false, 13), (false, 14), (false, 15), (false, 16), (false, 17), (false, 18)] := rfl
theorem plan_61_13 : E.plan 61 13 = [(false, 0), (false, 1), (false, 2), (false, 3), (false, 4), (false, 5), (false, 6), (false, 7), (false, 8), (false, 9), (true, 10), (false, 11), (false, 12), (false, 13)] := rfl
theorem plan_62_12 : E.plan 62 12 = [(false, 0), (false, 1), (false, 2), (false, 3), (false, 4), (true, 5), (false, 6), (false, 7), (false, 8), (false, 9), (false, 10), (false, 11), (false, 12), (false, 13), (false, 14), (false, 15), (false, 16), (false, 17), (false, 18), (false, 19)] := rfl
theorem keep_9_3 : E.keep 9 3 = [0, 3, 4] := rfl
theorem keep_10_3 : E.keep 10 3 = [0, 3, 4] := rfl
theorem keep_14_4 : E.keep 14 4 = [0, 1, 5] := rfl
theorem keep_15_4 : E.keep 15 4 = [0, 1, 5] := rfl
theorem keep_19_5 : E.keep 19 5 = [0, 1, 5] := rfl
theorem keep_21_2 : E.keep 21 2 = [0, 1, 2, 3, 4, 5, 13] := rfl
theorem keep_22_3 : E.keep 22 3 = [0, 1, 2, 3, 4, 11, 12] := rfl
theorem keep_25_3 : E.keep 25 3 = [0, 3, 4] := rfl
theorem keep_28_3 : E.keep 28 3 = [1, 2, 3, 4, 11, 14, 15, 16] := rfl
theorem keep_31_4 : E.keep 31 4 = [0, 1, 5] := rfl
theorem keep_37_2 : E.keep 37 2 = [0, 1, 5] := rfl
theorem keep_38_13 : E.keep 38 13 = [11, 15, 16] := rfl
theorem keep_38_8 : E.keep 38 8 = [0, 1, 2, 3, 4, 11, 12, 13, 14] := rfl
theorem keep_38_3 : E.keep 38 3 = [0, 1, 2, 3, 4, 11, 12] := rfl
theorem keep_42_3 : E.keep 42 3 = [0, 2, 3, 4, 11, 15, 16, 17] := rfl
theorem keep_43_2 : E.keep 43 2 = [0, 1, 7, 8] := rfl
theorem keep_46_3 : E.keep 46 3 = [1, 2, 5] := rfl
theorem keep_47_4 : E.keep 47 4 = [1, 3] := rfl
theorem keep_48_3 : E.keep 48 3 = [3, 7, 8, 9] := rfl
theorem keep_50_15 : E.keep 50 15 = [5, 6, 9] := rfl
theorem keep_50_10 : E.keep 50 10 = [0, 5, 6, 7, 8] := rfl
theorem keep_50_7 : E.keep 50 7 = [0, 5, 6, 7] := rfl
theorem keep_54_2 : E.keep 54 2 = [0, 1, 7, 8] := rfl
theorem keep_55_5 : E.keep 55 5 = [1, 5, 15, 16] := rfl
theorem keep_70_7 : E.keep 70 7 = [0, 4, 5, 6, 7, 21, 22, 23] := rfl
theorem keep_70_3 : E.keep 70 3 = [0, 4, 5, 6] := rfl
theorem keep_78_2 : E.keep 78 2 = [0, 1, 7, 8] := rfl
theorem md_3 : E.md 3 = [] := rfl
theorem md_4 : E.md 4 = [] := rfl
theorem md_5 : E.md 5 = [] := rfl
theorem md_6 : E.md 6 = [] := rfl
theorem md_7 : E.md 7 = [] := rfl
theorem md_8 : E.md 8 = [] := rfl
theorem md_9 : E.md 9 = [] := rfl
theorem md_10 : E.md 10 = [] := rfl
theorem md_11 : E.md 11 = [] := rfl
theorem md_12 : E.md 12 = [] := rfl
theorem md_13 : E.md 13 = [] := rfl
theorem md_14 : E.md 14 = [] := rfl
theorem md_15 : E.md 15 = [] := rfl
theorem md_16 : E.md 16 = [] := rfl
theorem md_17 : E.md 17 = [] := rfl
theorem md_18 : E.md 18 = [] := rfl
theorem md_19 : E.md 19 = [] := rfl
theorem md_20 : E.md 20 = [] := rfl
theorem md_21 : E.md 21 = [] := rfl
theorem md_22 : E.md 22 = [] := rfl
theorem md_23 : E.md 23 = [] := rfl
theorem md_24 : E.md 24 = [] := rfl
theorem md_25 : E.md 25 = [] := rfl
theorem md_26 : E.md 26 = [] := rfl
theorem md_27 : E.md 27 = [] := rfl
theorem md_28 : E.md 28 = [] := rfl
theorem md_29 : E.md 29 = [] := rfl
theorem md_30 : E.md 30 = [] := rfl
theorem md_31 : E.md 31 = [] := rfl
theorem md_32 : E.md 32 = [] := rfl
theorem md_33 : E.md 33 = [] := rfl
theorem md_34 : E.md 34 = [] := rfl
theorem md_35 : E.md 35 = [] := rfl
theorem md_36 : E.md 36 = [] := rfl
theorem md_37 : E.md 37 = [] := rfl
theorem md_38 : E.md 38 = [] := rfl
theorem md_39 : E.md 39 = [] := rfl
theorem md_40 : E.md 40 = [] := rfl
theorem md_41 : E.md 41 = [] := rfl
theorem md_42 : E.md 42 = [] := rfl
theorem md_43 : E.md 43 = [] := rfl
theorem md_44 : E.md 44 = [] := rfl
theorem md_45 : E.md 45 = [] := rfl
theorem md_46 : E.md 46 = [] := rfl
theorem md_47 : E.md 47 = [] := rfl
theorem md_48 : E.md 48 = [] := rfl
theorem md_49 : E.md 49 = [] := rfl
theorem md_50 : E.md 50 = [] := rfl
theorem md_51 : E.md 51 = [] := rfl
theorem md_52 : E.md 52 = [] := rfl
theorem md_53 : E.md 53 = [] := rfl
theorem md_54 : E.md 54 = [] := rfl
theorem md_55 : E.md 55 = [] := rfl
theorem md_56 : E.md 56 = [.«mut»] := rfl
theorem md_57 : E.md 57 = [.give] := rfl
theorem md_58 : E.md 58 = [] := rfl
theorem md_59 : E.md 59 = [] := rfl
theorem md_60 : E.md 60 = [] := rfl
theorem md_61 : E.md 61 = [] := rfl
theorem md_62 : E.md 62 = [] := rfl
theorem md_63 : E.md 63 = [] := rfl
theorem md_64 : E.md 64 = [] := rfl
theorem md_65 : E.md 65 = [] := rfl
theorem md_66 : E.md 66 = [] := rfl
theorem md_67 : E.md 67 = [] := rfl
theorem md_68 : E.md 68 = [] := rfl
theorem md_69 : E.md 69 = [] := rfl
theorem md_70 : E.md 70 = [] := rfl
theorem md_73 : E.md 73 = [] := rfl
theorem md_74 : E.md 74 = [] := rfl
theorem md_75 : E.md 75 = [] := rfl
theorem md_76 : E.md 76 = [] := rfl
theorem md_77 : E.md 77 = [] := rfl
theorem md_78 : E.md 78 = [] := rfl
theorem md_79 : E.md 79 = [] := rfl
theorem md_91 : E.md 91 = [] := rfl
theorem md_98 : E.md 98 = [] := rfl
theorem md_99 : E.md 99 = [] := rfl
theorem tr_3 : E.tree 3 = false := rfl
theorem tr_4 : E.tree 4 = false := rfl
theorem tr_5 : E.tree 5 = false := rfl
theorem tr_6 : E.tree 6 = false := rfl
theorem tr_7 : E.tree 7 = false := rfl
theorem tr_8 : E.tree 8 = false := rfl
theorem tr_9 : E.tree 9 = false := rfl
theorem tr_10 : E.tree 10 = false := rfl
theorem tr_11 : E.tree 11 = false := rfl
theorem tr_12 : E.tree 12 = false := rfl
theorem tr_13 : E.tree 13 = false := rfl
theorem tr_14 : E.tree 14 = false := rfl
theorem tr_15 : E.tree 15 = false := rfl
theorem tr_16 : E.tree 16 = false := rfl
theorem tr_17 : E.tree 17 = false := rfl
theorem tr_18 : E.tree 18 = false := rfl
theorem tr_19 : E.tree 19 = false := rfl
theorem tr_20 : E.tree 20 = false := rfl
theorem tr_21 : E.tree 21 = false := rfl
theorem tr_22 : E.tree 22 = false := rfl
theorem tr_23 : E.tree 23 = false := rfl
theorem tr_24 : E.tree 24 = false := rfl
theorem tr_25 : E.tree 25 = false := rfl
theorem tr_26 : E.tree 26 = false := rfl
theorem tr_27 : E.tree 27 = false := rfl
theorem tr_28 : E.tree 28 = false := rfl
theorem tr_29 : E.tree 29 = false := rfl
theorem tr_30 : E.tree 30 = false := rfl
theorem tr_31 : E.tree 31 = false := rfl
theorem tr_32 : E.tree 32 = false := rfl
theorem tr_33 : E.tree 33 = false := rfl
theorem tr_34 : E.tree 34 = false := rfl
theorem tr_35 : E.tree 35 = false := rfl
theorem tr_36 : E.tree 36 = false := rfl
theorem tr_37 : E.tree 37 = false := rfl
theorem tr_38 : E.tree 38 = false := rfl
theorem tr_39 : E.tree 39 = false := rfl
theorem tr_40 : E.tree 40 = false := rfl
theorem tr_41 : E.tree 41 = false := rfl
theorem tr_42 : E.tree 42 = false := rfl
theorem tr_43 : E.tree 43 = false := rfl
theorem tr_44 : E.tree 44 = false := rfl
theorem tr_45 : E.tree 45 = false := rfl
theorem tr_46 : E.tree 46 = false := rfl
theorem tr_47 : E.tree 47 = false := rfl
theorem tr_48 : E.tree 48 = false := rfl
theorem tr_49 : E.tree 49 = false := rfl
theorem tr_50 : E.tree 50 = false := rfl
theorem tr_51 : E.tree 51 = false := rfl
theorem tr_52 : E.tree 52 = false := rfl
theorem tr_53 : E.tree 53 = false := rfl
theorem tr_54 : E.tree 54 = false := rfl
theorem tr_55 : E.tree 55 = false := rfl
theorem tr_58 : E.tree 58 = false := rfl
theorem tr_59 : E.tree 59 = false := rfl
theorem tr_60 : E.tree 60 = false := rfl
theorem tr_61 : E.tree 61 = false := rfl
theorem tr_62 : E.tree 62 = false := rfl
theorem tr_63 : E.tree 63 = false := rfl
theorem tr_64 : E.tree 64 = false := rfl
theorem tr_65 : E.tree 65 = false := rfl
theorem tr_66 : E.tree 66 = false := rfl
theorem tr_67 : E.tree 67 = false := rfl
theorem tr_68 : E.tree 68 = false := rfl
theorem tr_69 : E.tree 69 = false := rfl
theorem tr_70 : E.tree 70 = false := rfl
theorem tr_73 : E.tree 73 = false := rfl
theorem tr_74 : E.tree 74 = false := rfl
theorem tr_75 : E.tree 75 = false := rfl
theorem tr_76 : E.tree 76 = false := rfl
theorem tr_77 : E.tree 77 = false := rfl
theorem tr_78 : E.tree 78 = false := rfl
theorem tr_79 : E.tree 79 = false := rfl
theorem tr_91 : E.tree 91 = false := rfl
theorem tr_98 : E.tree 98 = false := rfl
theorem tr_99 : E.tree 99 = false := rfl
theorem MDS : type_of% (And.intro (And.intro (And.intro (And.intro (And.intro (And.intro (And.intro @md_3 @md_4) (And.intro @md_5 @md_6)) (And.intro (And.intro @md_7 @md_8) (And.intro @md_9 (And.intro @md_10 @md_11)))) (And.intro (And.intro (And.intro @md_12 @md_13) (And.intro @md_14 (And.intro @md_15 @md_16))) (And.intro (And.intro @md_17 @md_18) (And.intro @md_19 (And.intro @md_20 @md_21))))) (And.intro (And.intro (And.intro (And.intro @md_22 @md_23) (And.intro @md_24 @md_25)) (And.intro (And.intro @md_26 @md_27) (And.intro @md_28 (And.intro @md_29 @md_30)))) (And.intro (And.intro (And.intro @md_31 @md_32) (And.intro @md_33 (And.intro @md_34 @md_35))) (And.intro (And.intro @md_36 @md_37) (And.intro @md_38 (And.intro @md_39 @md_40)))))) (And.intro (And.intro (And.intro (And.intro (And.intro @md_41 @md_42) (And.intro @md_43 @md_44)) (And.intro (And.intro @md_45 @md_46) (And.intro @md_47 (And.intro @md_48 @md_49)))) (And.intro (And.intro (And.intro @md_50 @md_51) (And.intro @md_52 (And.intro @md_53 @md_54))) (And.intro (And.intro @md_55 @md_56) (And.intro @md_57 (And.intro @md_58 @md_59))))) (And.intro (And.intro (And.intro (And.intro @md_60 @md_61) (And.intro @md_62 (And.intro @md_63 @md_64))) (And.intro (And.intro @md_65 @md_66) (And.intro @md_67 (And.intro @md_68 @md_69)))) (And.intro (And.intro (And.intro @md_70 @md_73) (And.intro @md_74 (And.intro @md_75 @md_76))) (And.intro (And.intro @md_77 @md_78) (And.intro @md_79 (And.intro @md_91 @md_98))))))) (And.intro (And.intro (And.intro (And.intro (And.intro (And.intro @md_99 @tr_3) (And.intro @tr_4 @tr_5)) (And.intro (And.intro @tr_6 @tr_7) (And.intro @tr_8 (And.intro @tr_9 @tr_10)))) (And.intro (And.intro (And.intro @tr_11 @tr_12) (And.intro @tr_13 (And.intro @tr_14 @tr_15))) (And.intro (And.intro @tr_16 @tr_17) (And.intro @tr_18 (And.intro @tr_19 @tr_20))))) (And.intro (And.intro (And.intro (And.intro @tr_21 @tr_22) (And.intro @tr_23 @tr_24)) (And.intro (And.intro @tr_25 @tr_26) (And.intro @tr_27 (And.intro @tr_28 @tr_29)))) (And.intro (And.intro (And.intro @tr_30 @tr_31) (And.intro @tr_32 (And.intro @tr_33 @tr_34))) (And.intro (And.intro @tr_35 @tr_36) (And.intro @tr_37 (And.intro @tr_38 @tr_39)))))) (And.intro (And.intro (And.intro (And.intro (And.intro @tr_40 @tr_41) (And.intro @tr_42 @tr_43)) (And.intro (And.intro @tr_44 @tr_45) (And.intro @tr_46 (And.intro @tr_47 @tr_48)))) (And.intro (And.intro (And.intro @tr_49 @tr_50) (And.intro @tr_51 (And.intro @tr_52 @tr_53))) (And.intro (And.intro @tr_54 @tr_55) (And.intro @tr_58 (And.intro @tr_59 @tr_60))))) (And.intro (And.intro (And.intro (And.intro @tr_61 @tr_62) (And.intro @tr_63 (And.intro @tr_64 @tr_65))) (And.intro (And.intro @tr_66 @tr_67) (And.intro @tr_68 (And.intro @tr_69 @tr_70)))) (And.intro (And.intro (And.intro @tr_73 @tr_74) (And.intro @tr_75 (And.intro @tr_76 @tr_77))) (And.intro (And.intro @tr_78 @tr_79) (And.intro @tr_91 (And.intro @tr_98 @tr_99)))))))) := (And.intro (And.intro (And.intro (And.intro (And.intro (And.intro (And.intro @md_3 @md_4) (And.intro @md_5 @md_6)) (And.intro (And.intro @md_7 @md_8) (And.intro @md_9 (And.intro @md_10 @md_11)))) (And.intro (And.intro (And.intro @md_12 @md_13) (And.intro @md_14 (And.intro @md_15 @md_16))) (And.intro (And.intro @md_17 @md_18) (And.intro @md_19 (And.intro @md_20 @md_21))))) (And.intro (And.intro (And.intro (And.intro @md_22 @md_23) (And.intro @md_24 @md_25)) (And.intro (And.intro @md_26 @md_27) (And.intro @md_28 (And.intro @md_29 @md_30)))) (And.intro (And.intro (And.intro @md_31 @md_32) (And.intro @md_33 (And.intro @md_34 @md_35))) (And.intro (And.intro @md_36 @md_37) (And.intro @md_38 (And.intro @md_39 @md_40)))))) (And.intro (And.intro (And.intro (And.intro (And.intro @md_41 @md_42) (And.intro @md_43 @md_44)) (And.intro (And.intro @md_45 @md_46) (And.intro @md_47 (And.intro @md_48 @md_49)))) (And.intro (And.intro (And.intro @md_50 @md_51) (And.intro @md_52 (And.intro @md_53 @md_54))) (And.intro (And.intro @md_55 @md_56) (And.intro @md_57 (And.intro @md_58 @md_59))))) (And.intro (And.intro (And.intro (And.intro @md_60 @md_61) (And.intro @md_62 (And.intro @md_63 @md_64))) (And.intro (And.intro @md_65 @md_66) (And.intro @md_67 (And.intro @md_68 @md_69)))) (And.intro (And.intro (And.intro @md_70 @md_73) (And.intro @md_74 (And.intro @md_75 @md_76))) (And.intro (And.intro @md_77 @md_78) (And.intro @md_79 (And.intro @md_91 @md_98))))))) (And.intro (And.intro (And.intro (And.intro (And.intro (And.intro @md_99 @tr_3) (And.intro @tr_4 @tr_5)) (And.intro (And.intro @tr_6 @tr_7) (And.intro @tr_8 (And.intro @tr_9 @tr_10)))) (And.intro (And.intro (And.intro @tr_11 @tr_12) (And.intro @tr_13 (And.intro @tr_14 @tr_15))) (And.intro (And.intro @tr_16 @tr_17) (And.intro @tr_18 (And.intro @tr_19 @tr_20))))) (And.intro (And.intro (And.intro (And.intro @tr_21 @tr_22) (And.intro @tr_23 @tr_24)) (And.intro (And.intro @tr_25 @tr_26) (And.intro @tr_27 (And.intro @tr_28 @tr_29)))) (And.intro (And.intro (And.intro @tr_30 @tr_31) (And.intro @tr_32 (And.intro @tr_33 @tr_34))) (And.intro (And.intro @tr_35 @tr_36) (And.intro @tr_37 (And.intro @tr_38 @tr_39)))))) (And.intro (And.intro (And.intro (And.intro (And.intro @tr_40 @tr_41) (And.intro @tr_42 @tr_43)) (And.intro (And.intro @tr_44 @tr_45) (And.intro @tr_46 (And.intro @tr_47 @tr_48)))) (And.intro (And.intro (And.intro @tr_49 @tr_50) (And.intro @tr_51 (And.intro @tr_52 @tr_53))) (And.intro (And.intro @tr_54 @tr_55) (And.intro @tr_58 (And.intro @tr_59 @tr_60))))) (And.intro (And.intro (And.intro (And.intro @tr_61 @tr_62) (And.intro @tr_63 (And.intro @tr_64 @tr_65))) (And.intro (And.intro @tr_66 @tr_67) (And.intro @tr_68 (And.intro @tr_69 @tr_70)))) (And.intro (And.intro (And.intro @tr_73 @tr_74) (And.intro @tr_75 (And.intro @tr_76 @tr_77))) (And.intro (And.intro @tr_78 @tr_79) (And.intro @tr_91 (And.intro @tr_98 @tr_99))))))))
theorem TIS : type_of% (And.intro (And.intro (And.intro (And.intro (And.intro @ti3 @ti4) (And.intro @ti22 @sl22)) (And.intro (And.intro @ti23 @sl23) (And.intro @ti24 (And.intro @sl24 @ti26)))) (And.intro (And.intro (And.intro @is26 @ti28) (And.intro @is28 (And.intro @ti33 @sl33))) (And.intro (And.intro @ti35 @sl35) (And.intro @ti37 (And.intro @sl37 @ti39))))) (And.intro (And.intro (And.intro (And.intro @is39 @ti41) (And.intro @is41 @ti52)) (And.intro (And.intro @is52 @ti54) (And.intro @is54 (And.intro @ti56 @is56)))) (And.intro (And.intro (And.intro @ti58 @is58) (And.intro @ti66 (And.intro @sl66 @ti74))) (And.intro (And.intro @sl74 @ti83) (And.intro @na83 (And.intro @ar83 @ns83)))))) := (And.intro (And.intro (And.intro (And.intro (And.intro @ti3 @ti4) (And.intro @ti22 @sl22)) (And.intro (And.intro @ti23 @sl23) (And.intro @ti24 (And.intro @sl24 @ti26)))) (And.intro (And.intro (And.intro @is26 @ti28) (And.intro @is28 (And.intro @ti33 @sl33))) (And.intro (And.intro @ti35 @sl35) (And.intro @ti37 (And.intro @sl37 @ti39))))) (And.intro (And.intro (And.intro (And.intro @is39 @ti41) (And.intro @is41 @ti52)) (And.intro (And.intro @is52 @ti54) (And.intro @is54 (And.intro @ti56 @is56)))) (And.intro (And.intro (And.intro @ti58 @is58) (And.intro @ti66 (And.intro @sl66 @ti74))) (And.intro (And.intro @sl74 @ti83) (And.intro @na83 (And.intro @ar83 @ns83))))))
end Go.Proofs.Ytfljmpjckeopgaa.Flat
