/-
The program's functions, and how they are reckoned with: tables.
-/
import Derived.Test.YtggkeechdakccaaFlatM5
import Derived.Test.YtggkeechdakccaaFlatM4
import Derived.Test.YtggkeechdakccaaProg
import Derived.KernelRfl
set_option linter.unusedVariables false
set_option linter.unusedSimpArgs false
namespace Go.Proofs.Ytggkeechdakccaa.Flat
def keepT : Nat → Nat → List Nat
  | 3, 12 => [3, 4, 5, 6, 7, 8, 12]
  | 7, 4 => [0, 3, 6, 7]
  | 13, 3 => [0, 3, 4]
  | 14, 5 => [0, 4, 5, 6, 7, 8]
  | 20, 2 => [0, 5, 6, 7]
  | 29, 3 => [1, 2, 3, 4, 11, 14, 15, 16]
  | 30, 3 => [5, 6, 26]
  | 31, 3 => [0, 3, 4]
  | 32, 3 => [0, 3, 4]
  | 36, 6 => [0, 3, 6, 7, 8]
  | 46, 3 => [0, 2, 3, 4, 11, 15, 16, 17]
  | 47, 2 => [0, 1, 7, 8]
  | 51, 2 => [0, 3]
  | 58, 2 => [0, 1, 7, 8]
  | 59, 5 => [1, 5, 15, 16]
  | 71, 7 => [0, 4, 5, 6, 7, 21, 22, 23]
  | 71, 3 => [0, 4, 5, 6]
  | _, _ => []
def planT : Nat → Nat → List (Qt × Nat)
  | 3, 7 => [(.no, 0), (.no, 1), (.no, 2), (.quiet, 3), (.no, 4), (.no, 5), (.no, 6), (.no, 7), (.no, 8), (.no, 11), (.quiet, 9), (.no, 10), (.no, 12), (.no, 13)]
  | 3, 14 => [(.no, 0), (.no, 1), (.no, 2), (.no, 3), (.no, 4), (.no, 5)]
  | 5, 6 => [(.no, 0), (.no, 1), (.no, 2), (.no, 3), (.quiet, 4), (.quiet, 5), (.soft [9] [9, 29], 6), (.no, 7)]
  | 7, 4 => [(.no, 0), (.no, 1), (.no, 2), (.no, 3), (.no, 4), (.no, 5), (.no, 6), (.no, 7), (.no, 8), (.no, 9), (.no, 10), (.no, 11)]
  | 7, 6 => [(.no, 0), (.no, 1), (.no, 2), (.no, 3), (.no, 4), (.no, 5), (.no, 6), (.no, 7), (.no, 8), (.no, 9), (.no, 10), (.no, 11)]
  | 7, 7 => [(.no, 0), (.no, 1), (.no, 2), (.no, 3), (.no, 4), (.no, 5)]
  | 8, 3 => [(.no, 0), (.no, 1), (.soft [5] [5, 10], 2), (.no, 3), (.no, 4)]
  | 9, 1 => [(.no, 0), (.no, 1), (.no, 2), (.no, 4), (.quiet, 3), (.no, 5), (.no, 6)]
  | 11, 9 => [(.no, 0), (.no, 1), (.no, 2), (.no, 3), (.no, 4), (.no, 5), (.no, 6), (.no, 8), (.no, 9), (.quiet, 7), (.no, 10), (.no, 11)]
  | 11, 11 => [(.no, 0), (.no, 1), (.no, 2), (.no, 3), (.no, 4), (.no, 5), (.no, 6), (.no, 8), (.no, 9), (.quiet, 7), (.no, 10), (.no, 11)]
  | 14, 17 => [(.no, 0), (.no, 1), (.no, 2), (.soft [47] [7, 47, 48], 3), (.no, 4), (.no, 5), (.no, 6), (.no, 7)]
  | 14, 18 => [(.no, 0), (.no, 1), (.no, 2), (.soft [54] [7, 54, 55], 3), (.no, 4), (.no, 5), (.no, 6)]
  | 14, 20 => [(.no, 0), (.no, 1), (.no, 2), (.quiet, 3), (.quiet, 4), (.no, 5)]
  | 20, 4 => [(.no, 0), (.no, 1), (.no, 2), (.no, 3), (.no, 4), (.no, 5), (.no, 6), (.no, 7), (.no, 8), (.no, 9), (.no, 10), (.no, 11), (.no, 12), (.no, 13), (.no, 14), (.no, 15), (.no, 16)]
  | 30, 1 => [(.no, 0), (.no, 1), (.no, 2), (.no, 3), (.no, 4), (.no, 5), (.no, 6), (.no, 7), (.no, 8), (.no, 9), (.no, 10), (.no, 11), (.no, 12), (.no, 13), (.no, 14), (.no, 15), (.no, 16), (.no, 17), (.still, 19), (.still, 18), (.soft [17, 19, 21, 23] [3, 17, 18, 19, 20, 21, 22, 23, 24, 25], 20), (.no, 21)]
  | 30, 5 => [(.no, 0), (.no, 1), (.no, 2), (.no, 3), (.no, 4), (.no, 5), (.no, 6), (.no, 7)]
  | 30, 7 => [(.no, 0), (.no, 1), (.no, 2), (.no, 3), (.no, 4), (.no, 5), (.no, 6), (.no, 7)]
  | 34, 2 => [(.no, 0), (.no, 1), (.no, 2), (.soft [12] [3, 12, 13], 3), (.no, 4), (.no, 5), (.no, 6)]
  | 36, 8 => [(.no, 0), (.no, 1), (.no, 2), (.no, 3), (.no, 4), (.no, 5), (.no, 6), (.no, 7), (.no, 8), (.no, 9)]
  | 38, 2 => [(.no, 0), (.no, 1), (.no, 2), (.no, 3), (.no, 4), (.no, 5), (.no, 6), (.no, 7), (.no, 8), (.no, 9), (.no, 10), (.no, 11), (.no, 12)]
  | 38, 3 => [(.no, 0), (.no, 1), (.no, 2), (.no, 3), (.no, 4), (.no, 5), (.no, 6), (.no, 7), (.no, 8), (.no, 9)]
  | 38, 4 => [(.no, 0), (.no, 1), (.no, 2), (.no, 3), (.no, 4), (.no, 5), (.no, 6), (.no, 7), (.no, 8), (.no, 9), (.no, 10), (.no, 11), (.no, 12), (.no, 13), (.no, 14)]
  | 51, 4 => [(.no, 0), (.no, 1), (.no, 2), (.no, 3), (.no, 4), (.no, 5), (.no, 6), (.no, 7), (.no, 8), (.no, 9), (.no, 10), (.no, 11), (.no, 12), (.no, 13), (.no, 14), (.no, 15), (.no, 16), (.no, 17), (.no, 18), (.no, 19), (.no, 20), (.no, 21), (.no, 22)]
  | _, _ => []
def okT : List Nat := [3, 4, 5, 6, 7, 8, 9, 10, 11, 12, 13, 14, 15, 16, 17, 18, 19, 20, 21, 22, 23, 25, 26, 27, 28, 29, 30, 31, 32, 33, 34, 35, 36, 37, 38, 39, 40, 41, 42, 45, 46, 47, 48, 49, 50, 51, 52, 53, 54, 55, 56, 58, 59, 62, 63, 64, 65, 66, 67, 68, 70, 71, 74]
def treeT : List Nat := []
def mdT : Nat → List Mode
  | 13 => [.give]
  | 14 => [.io]
  | 15 => [.io]
  | 16 => [.io, .ro]
  | 17 => [.io, .ro]
  | 18 => [.io]
  | 24 => [.give, .ro, .ro]
  | 25 => [.io]
  | 26 => [.io]
  | 31 => [.io]
  | 32 => [.io]
  | 33 => [.io]
  | 34 => [.io]
  | 37 => [.io, .ro]
  | 38 => [.io]
  | 39 => [.io]
  | 50 => [.io, .ro]
  | 60 => [.«mut»]
  | 61 => [.give]
  | _ => []
noncomputable def E : Env := { P := Go.Proofs.Try.prog, md := mdT, keep := keepT, plan := planT, ok := fun f => okT.contains f, tree := fun f => treeT.contains f }
theorem mixed : E.P.follows .mixedOrders = true := by kernel_rfl
def good1 (P : Program) (plan : Nat → Nat → List (Qt × Nat)) (md : Nat → List Mode) (f : Nat) : Bool :=
  match P.funcs[f]? with
  | some fn => (match fn.body with | some c => codeOK (plan f) c && codePin (mutSlots 0 (md f)) c | none => true) && !(fn.name == "runtime.NumGoroutine")
  | none => true
theorem good1_ok {E : Env} {l : List Nat} (ho : ∀ f, E.ok f = true → f ∈ l) (h : l.all (good1 E.P E.plan E.md) = true) : Sound E := by
  intro f hf fn c hfn hc
  have h1 := List.all_eq_true.1 h f (ho f hf)
  simp -implicitDefEqProofs only [good1, hfn, hc, Bool.and_eq_true, Bool.not_eq_true', beq_eq_false_iff_ne, ne_eq] at h1
  exact ⟨h1.1.1, h1.2, h1.1.2⟩
theorem sound : Sound E := good1_ok (l := okT) (fun f hf => by simpa [E] using hf) (by kernel_rfl)
def extT : Nat → Option (List AV → List (List AV) → Option (AV × List (List AV)))
  | 24 => some insExt
  | 60 => some sortExt
  | 61 => some compactExt
  | _ => none
abbrev noExt : Nat → Option (List AV → List (List AV) → Option (AV × List (List AV))) := extT
theorem ext_24 : noExt 24 = some insExt := rfl
theorem ext_60 : noExt 60 = some sortExt := rfl
theorem ext_61 : noExt 61 = some compactExt := rfl
abbrev nSort : Nat := 60
abbrev nCompact : Nat := 61
abbrev tBool : Nat := 4
theorem tagBool : tagOf E.P 4 = .bool := by kernel_rfl
theorem one_ne : (1 = 0) = False := by simp
theorem ti3 : tiOf E.P 3 = some { tag := Tag.int IntKind.i64, agg := false, size := 1, bytes := 8, zero := some (Value.int IntKind.i64 0), elem := 0, fields := [], eqs := none } := by kernel_rfl
theorem ti4 : tiOf E.P 4 = some { tag := Tag.bool, agg := false, size := 1, bytes := 1, zero := some (Value.bool false), elem := 0, fields := [], eqs := none } := by kernel_rfl
theorem ti5 : tiOf E.P 5 = some { tag := Tag.int IntKind.u8, agg := false, size := 1, bytes := 1, zero := some (Value.int IntKind.u8 0), elem := 0, fields := [], eqs := none } := by kernel_rfl
theorem ti22 : tiOf E.P 22 = some { tag := Tag.slice, agg := false, size := 1, bytes := 24, zero := some (Value.slice none 0 0), elem := 5, fields := [], eqs := none } := by kernel_rfl
theorem sl22 : isSliceT E.P 22 = true := by kernel_rfl
theorem ti24 : tiOf E.P 24 = some { tag := Tag.slice, agg := false, size := 1, bytes := 24, zero := some (Value.slice none 0 0), elem := 79, fields := [], eqs := none } := by kernel_rfl
theorem sl24 : isSliceT E.P 24 = true := by kernel_rfl
theorem ti25 : tiOf E.P 25 = some { tag := Tag.slice, agg := false, size := 1, bytes := 24, zero := some (Value.slice none 0 0), elem := 34, fields := [], eqs := none } := by kernel_rfl
theorem sl25 : isSliceT E.P 25 = true := by kernel_rfl
theorem ti28 : tiOf E.P 28 = some { tag := Tag.struct, agg := true, size := 4, bytes := 48, zero := some (Value.agg #[Value.int IntKind.i64 0, Value.int IntKind.i64 0, Value.int IntKind.i64 0, Value.slice none 0 0]), elem := 0, fields := [(0, 1, false), (1, 1, false), (2, 1, false), (3, 1, false)], eqs := none } := by kernel_rfl
theorem is28 : isStructT E.P 28 = true := by kernel_rfl
theorem ti30 : tiOf E.P 30 = some { tag := Tag.struct, agg := true, size := 6, bytes := 48, zero := some (Value.agg #[Value.int IntKind.i64 0, Value.int IntKind.i64 0, Value.int IntKind.i64 0, Value.int IntKind.i64 0, Value.int IntKind.i64 0, Value.int IntKind.i64 0]), elem := 0, fields := [(0, 1, false), (1, 1, false), (2, 1, false), (3, 1, false), (4, 1, false), (5, 1, false)], eqs := some [0, 0, 0, 0, 0, 0] } := by kernel_rfl
theorem is30 : isStructT E.P 30 = true := by kernel_rfl
theorem ti34 : tiOf E.P 34 = some { tag := Tag.struct, agg := true, size := 6, bytes := 48, zero := some (Value.agg #[Value.int IntKind.i64 0, Value.int IntKind.i64 0, Value.int IntKind.i64 0, Value.int IntKind.i64 0, Value.int IntKind.i64 0, Value.int IntKind.i64 0]), elem := 0, fields := [(0, 1, false), (1, 1, false), (2, 1, false), (3, 1, false), (4, 1, false), (5, 1, false)], eqs := some [0, 0, 0, 0, 0, 0] } := by kernel_rfl
theorem is34 : isStructT E.P 34 = true := by kernel_rfl
theorem ti63 : tiOf E.P 63 = some { tag := Tag.struct, agg := true, size := 3, bytes := 40, zero := some (Value.agg #[Value.slice none 0 0, Value.int IntKind.i64 0, Value.int IntKind.i64 0]), elem := 0, fields := [(0, 1, false), (1, 1, false), (2, 1, false)], eqs := none } := by kernel_rfl
theorem is63 : isStructT E.P 63 = true := by kernel_rfl
theorem ti68 : tiOf E.P 68 = some { tag := Tag.slice, agg := false, size := 1, bytes := 24, zero := some (Value.slice none 0 0), elem := 3, fields := [], eqs := none } := by kernel_rfl
theorem sl68 : isSliceT E.P 68 = true := by kernel_rfl
theorem ti77 : tiOf E.P 77 = some { tag := Tag.array 4, agg := true, size := 4, bytes := 32, zero := some (Value.agg #[Value.int IntKind.i64 0, Value.int IntKind.i64 0, Value.int IntKind.i64 0, Value.int IntKind.i64 0]), elem := 3, fields := [], eqs := none } := by kernel_rfl
theorem na77 : isSliceT E.P 77 = false := by kernel_rfl
theorem ar77 : isArrayT E.P 77 = some 4 := by kernel_rfl
theorem ns77 : isStructT E.P 77 = false := by kernel_rfl
theorem ti79 : tiOf E.P 79 = some { tag := Tag.struct, agg := true, size := 2, bytes := 16, zero := some (Value.agg #[Value.int IntKind.i64 0, Value.int IntKind.i64 0]), elem := 0, fields := [(0, 1, false), (1, 1, false)], eqs := some [0, 0] } := by kernel_rfl
theorem is79 : isStructT E.P 79 = true := by kernel_rfl
theorem ti88 : tiOf E.P 88 = some { tag := Tag.array 6, agg := true, size := 6, bytes := 6, zero := some (Value.agg #[Value.bool false, Value.bool false, Value.bool false, Value.bool false, Value.bool false, Value.bool false]), elem := 4, fields := [], eqs := none } := by kernel_rfl
theorem na88 : isSliceT E.P 88 = false := by kernel_rfl
theorem ar88 : isArrayT E.P 88 = some 6 := by kernel_rfl
theorem ns88 : isStructT E.P 88 = false := by kernel_rfl
theorem plan_3_7 : E.plan 3 7 = [(.no, 0), (.no, 1), (.no, 2), (.quiet, 3), (.no, 4), (.no, 5), (.no, 6), (.no, 7), (.no, 8), (.no, 11), (.quiet, 9), (.no, 10), (.no, 12), (.no, 13)] := rfl
theorem plan_3_14 : E.plan 3 14 = [(.no, 0), (.no, 1), (.no, 2), (.no, 3), (.no, 4), (.no, 5)] := rfl
theorem plan_5_6 : E.plan 5 6 = [(.no, 0), (.no, 1), (.no, 2), (.no, 3), (.quiet, 4), (.quiet, 5), (.soft [9] [9, 29], 6), (.no, 7)] := rfl
theorem plan_7_4 : E.plan 7 4 = [(.no, 0), (.no, 1), (.no, 2), (.no, 3), (.no, 4), (.no, 5), (.no, 6), (.no, 7), (.no, 8), (.no, 9), (.no, 10), (.no, 11)] := rfl
theorem plan_7_6 : E.plan 7 6 = [(.no, 0), (.no, 1), (.no, 2), (.no, 3), (.no, 4), (.no, 5), (.no, 6), (.no, 7), (.no, 8), (.no, 9), (.no, 10), (.no, 11)] := rfl
theorem plan_7_7 : E.plan 7 7 = [(.no, 0), (.no, 1), (.no, 2), (.no, 3), (.no, 4), (.no, 5)] := rfl
theorem plan_8_3 : E.plan 8 3 = [(.no, 0), (.no, 1), (.soft [5] [5, 10], 2), (.no, 3), (.no, 4)] := rfl
theorem plan_9_1 : E.plan 9 1 = [(.no, 0), (.no, 1), (.no, 2), (.no, 4), (.quiet, 3), (.no, 5), (.no, 6)] := rfl
theorem plan_11_9 : E.plan 11 9 = [(.no, 0), (.no, 1), (.no, 2), (.no, 3), (.no, 4), (.no, 5), (.no, 6), (.no, 8), (.no, 9), (.quiet, 7), (.no, 10), (.no, 11)] := rfl
theorem plan_11_11 : E.plan 11 11 = [(.no, 0), (.no, 1), (.no, 2), (.no, 3), (.no, 4), (.no, 5), (.no, 6), (.no, 8), (.no, 9), (.quiet, 7), (.no, 10), (.no, 11)] := rfl
theorem plan_14_17 : E.plan 14 17 = [(.no, 0), (.no, 1), (.no, 2), (.soft [47] [7, 47, 48], 3), (.no, 4), (.no, 5), (.no, 6), (.no, 7)] := rfl
theorem plan_14_18 : E.plan 14 18 = [(.no, 0), (.no, 1), (.no, 2), (.soft [54] [7, 54, 55], 3), (.no, 4), (.no, 5), (.no, 6)] := rfl
theorem plan_14_20 : E.plan 14 20 = [(.no, 0), (.no, 1), (.no, 2), (.quiet, 3), (.quiet, 4), (.no, 5)] := rfl
theorem plan_20_4 : E.plan 20 4 = [(.no, 0), (.no, 1), (.no, 2), (.no, 3), (.no, 4), (.no, 5), (.no, 6), (.no, 7), (.no, 8), (.no, 9), (.no, 10), (.no, 11), (.no, 12), (.no, 13), (.no, 14), (.no, 15), (.no, 16)] := rfl
theorem plan_30_1 : E.plan 30 1 = [(.no, 0), (.no, 1), (.no, 2), (.no, 3), (.no, 4), (.no, 5), (.no, 6), (.no, 7), (.no, 8), (.no, 9), (.no, 10), (.no, 11), (.no, 12), (.no, 13), (.no, 14), (.no, 15), (.no, 16), (.no, 17), (.still, 19), (.still, 18), (.soft [17, 19, 21, 23] [3, 17, 18, 19, 20, 21, 22, 23, 24, 25], 20), (.no, 21)] := rfl
theorem plan_30_5 : E.plan 30 5 = [(.no, 0), (.no, 1), (.no, 2), (.no, 3), (.no, 4), (.no, 5), (.no, 6), (.no, 7)] := rfl
theorem plan_30_7 : E.plan 30 7 = [(.no, 0), (.no, 1), (.no, 2), (.no, 3), (.no, 4), (.no, 5), (.no, 6), (.no, 7)] := rfl
theorem plan_34_2 : E.plan 34 2 = [(.no, 0), (.no, 1), (.no, 2), (.soft [12] [3, 12, 13], 3), (.no, 4), (.no, 5), (.no, 6)] := rfl
theorem plan_36_8 : E.plan 36 8 = [(.no, 0), (.no, 1), (.no, 2), (.no, 3), (.no, 4), (.no, 5), (.no, 6), (.no, 7), (.no, 8), (.no, 9)] := rfl
theorem plan_38_2 : E.plan 38 2 = [(.no, 0), (.no, 1), (.no, 2), (.no, 3), (.no, 4), (.no, 5), (.no, 6), (.no, 7), (.no, 8), (.no, 9), (.no, 10), (.no, 11), (.no, 12)] := rfl
theorem plan_38_3 : E.plan 38 3 = [(.no, 0), (.no, 1), (.no, 2), (.no, 3), (.no, 4), (.no, 5), (.no, 6), (.no, 7), (.no, 8), (.no, 9)] := rfl
theorem plan_38_4 : E.plan 38 4 = [(.no, 0), (.no, 1), (.no, 2), (.no, 3), (.no, 4), (.no, 5), (.no, 6), (.no, 7), (.no, 8), (.no, 9), (.no, 10), (.no, 11), (.no, 12), (.no, 13), (.no, 14)] := rfl
theorem plan_51_4 : E.plan 51 4 = [(.no, 0), (.no, 1), (.no, 2), (.no, 3), (.no, 4), (.no, 5), (.no, 6), (.no, 7), (.no, 8), (.no, 9), (.no, 10), (.no, 11), (.no, 12), (.no, 13), (.no, 14), (.no, 15), (.no, 16), (.no, 17), (.no, 18), (.no, 19), (.no, 20), (.no, 21), (.no, 22)] := rfl
theorem keep_3_12 : E.keep 3 12 = [3, 4, 5, 6, 7, 8, 12] := rfl
theorem keep_7_4 : E.keep 7 4 = [0, 3, 6, 7] := rfl
theorem keep_13_3 : E.keep 13 3 = [0, 3, 4] := rfl
theorem keep_14_5 : E.keep 14 5 = [0, 4, 5, 6, 7, 8] := rfl
theorem keep_20_2 : E.keep 20 2 = [0, 5, 6, 7] := rfl
theorem keep_29_3 : E.keep 29 3 = [1, 2, 3, 4, 11, 14, 15, 16] := rfl
theorem keep_30_3 : E.keep 30 3 = [5, 6, 26] := rfl
theorem keep_31_3 : E.keep 31 3 = [0, 3, 4] := rfl
theorem keep_32_3 : E.keep 32 3 = [0, 3, 4] := rfl
theorem keep_36_6 : E.keep 36 6 = [0, 3, 6, 7, 8] := rfl
theorem keep_46_3 : E.keep 46 3 = [0, 2, 3, 4, 11, 15, 16, 17] := rfl
theorem keep_47_2 : E.keep 47 2 = [0, 1, 7, 8] := rfl
theorem keep_51_2 : E.keep 51 2 = [0, 3] := rfl
theorem keep_58_2 : E.keep 58 2 = [0, 1, 7, 8] := rfl
theorem keep_59_5 : E.keep 59 5 = [1, 5, 15, 16] := rfl
theorem keep_71_7 : E.keep 71 7 = [0, 4, 5, 6, 7, 21, 22, 23] := rfl
theorem keep_71_3 : E.keep 71 3 = [0, 4, 5, 6] := rfl
theorem md_3 : E.md 3 = [] := rfl
theorem md_4 : E.md 4 = [] := rfl
theorem md_5 : E.md 5 = [] := rfl
theorem md_6 : E.md 6 = [] := rfl
theorem md_7 : E.md 7 = [] := rfl
theorem md_8 : E.md 8 = [] := rfl
theorem md_9 : E.md 9 = [] := rfl
theorem md_10 : E.md 10 = [] := rfl
theorem md_11 : E.md 11 = [] := rfl
theorem md_12 : E.md 12 = [] := rfl
theorem md_13 : E.md 13 = [.give] := rfl
theorem md_14 : E.md 14 = [.io] := rfl
theorem md_15 : E.md 15 = [.io] := rfl
theorem md_16 : E.md 16 = [.io, .ro] := rfl
theorem md_17 : E.md 17 = [.io, .ro] := rfl
theorem md_18 : E.md 18 = [.io] := rfl
theorem md_19 : E.md 19 = [] := rfl
theorem md_20 : E.md 20 = [] := rfl
theorem md_21 : E.md 21 = [] := rfl
theorem md_22 : E.md 22 = [] := rfl
theorem md_23 : E.md 23 = [] := rfl
theorem md_24 : E.md 24 = [.give, .ro, .ro] := rfl
theorem md_25 : E.md 25 = [.io] := rfl
theorem md_26 : E.md 26 = [.io] := rfl
theorem md_27 : E.md 27 = [] := rfl
theorem md_28 : E.md 28 = [] := rfl
theorem md_29 : E.md 29 = [] := rfl
theorem md_30 : E.md 30 = [] := rfl
theorem md_31 : E.md 31 = [.io] := rfl
theorem md_32 : E.md 32 = [.io] := rfl
theorem md_33 : E.md 33 = [.io] := rfl
theorem md_34 : E.md 34 = [.io] := rfl
theorem md_35 : E.md 35 = [] := rfl
theorem md_36 : E.md 36 = [] := rfl
theorem md_37 : E.md 37 = [.io, .ro] := rfl
theorem md_38 : E.md 38 = [.io] := rfl
theorem md_39 : E.md 39 = [.io] := rfl
theorem md_40 : E.md 40 = [] := rfl
theorem md_41 : E.md 41 = [] := rfl
theorem md_42 : E.md 42 = [] := rfl
theorem md_45 : E.md 45 = [] := rfl
theorem md_46 : E.md 46 = [] := rfl
theorem md_47 : E.md 47 = [] := rfl
theorem md_48 : E.md 48 = [] := rfl
theorem md_49 : E.md 49 = [] := rfl
theorem md_50 : E.md 50 = [.io, .ro] := rfl
theorem md_51 : E.md 51 = [] := rfl
theorem md_52 : E.md 52 = [] := rfl
theorem md_53 : E.md 53 = [] := rfl
theorem md_54 : E.md 54 = [] := rfl
theorem md_55 : E.md 55 = [] := rfl
theorem md_56 : E.md 56 = [] := rfl
theorem md_58 : E.md 58 = [] := rfl
theorem md_59 : E.md 59 = [] := rfl
theorem md_60 : E.md 60 = [.«mut»] := rfl
theorem md_61 : E.md 61 = [.give] := rfl
theorem md_62 : E.md 62 = [] := rfl
theorem md_63 : E.md 63 = [] := rfl
theorem md_64 : E.md 64 = [] := rfl
theorem md_65 : E.md 65 = [] := rfl
theorem md_66 : E.md 66 = [] := rfl
theorem md_67 : E.md 67 = [] := rfl
theorem md_68 : E.md 68 = [] := rfl
theorem md_70 : E.md 70 = [] := rfl
theorem md_71 : E.md 71 = [] := rfl
theorem md_74 : E.md 74 = [] := rfl
theorem tr_3 : E.tree 3 = false := rfl
theorem tr_4 : E.tree 4 = false := rfl
theorem tr_5 : E.tree 5 = false := rfl
theorem tr_6 : E.tree 6 = false := rfl
theorem tr_7 : E.tree 7 = false := rfl
theorem tr_8 : E.tree 8 = false := rfl
theorem tr_9 : E.tree 9 = false := rfl
theorem tr_10 : E.tree 10 = false := rfl
theorem tr_11 : E.tree 11 = false := rfl
theorem tr_12 : E.tree 12 = false := rfl
theorem tr_13 : E.tree 13 = false := rfl
theorem tr_14 : E.tree 14 = false := rfl
theorem tr_15 : E.tree 15 = false := rfl
theorem tr_16 : E.tree 16 = false := rfl
theorem tr_17 : E.tree 17 = false := rfl
theorem tr_18 : E.tree 18 = false := rfl
theorem tr_19 : E.tree 19 = false := rfl
theorem tr_20 : E.tree 20 = false := rfl
theorem tr_21 : E.tree 21 = false := rfl
theorem tr_22 : E.tree 22 = false := rfl
theorem tr_23 : E.tree 23 = false := rfl
theorem tr_25 : E.tree 25 = false := rfl
theorem tr_26 : E.tree 26 = false := rfl
theorem tr_27 : E.tree 27 = false := rfl
theorem tr_28 : E.tree 28 = false := rfl
theorem tr_29 : E.tree 29 = false := rfl
theorem tr_30 : E.tree 30 = false := rfl
theorem tr_31 : E.tree 31 = false := rfl
theorem tr_32 : E.tree 32 = false := rfl
theorem tr_33 : E.tree 33 = false := rfl
theorem tr_34 : E.tree 34 = false := rfl
theorem tr_35 : E.tree 35 = false := rfl
theorem tr_36 : E.tree 36 = false := rfl
theorem tr_37 : E.tree 37 = false := rfl
theorem tr_38 : E.tree 38 = false := rfl
theorem tr_39 : E.tree 39 = false := rfl
theorem tr_40 : E.tree 40 = false := rfl
theorem tr_41 : E.tree 41 = false := rfl
theorem tr_42 : E.tree 42 = false := rfl
theorem tr_45 : E.tree 45 = false := rfl
theorem tr_46 : E.tree 46 = false := rfl
theorem tr_47 : E.tree 47 = false := rfl
theorem tr_48 : E.tree 48 = false := rfl
theorem tr_49 : E.tree 49 = false := rfl
theorem tr_50 : E.tree 50 = false := rfl
theorem tr_51 : E.tree 51 = false := rfl
theorem tr_52 : E.tree 52 = false := rfl
theorem tr_53 : E.tree 53 = false := rfl
theorem tr_54 : E.tree 54 = false := rfl
theorem tr_55 : E.tree 55 = false := rfl
theorem tr_56 : E.tree 56 = false := rfl
theorem tr_58 : E.tree 58 = false := rfl
theorem tr_59 : E.tree 59 = false := rfl
theorem tr_62 : E.tree 62 = false := rfl
theorem tr_63 : E.tree 63 = false := rfl
theorem tr_64 : E.tree 64 = false := rfl
theorem tr_65 : E.tree 65 = false := rfl
theorem tr_66 : E.tree 66 = false := rfl
theorem tr_67 : E.tree 67 = false := rfl
theorem tr_68 : E.tree 68 = false := rfl
theorem tr_70 : E.tree 70 = false := rfl
theorem tr_71 : E.tree 71 = false := rfl
theorem tr_74 : E.tree 74 = false := rfl
theorem MDS : type_of% (And.intro (And.intro (And.intro (And.intro (And.intro (And.intro (And.intro @md_3 @md_4) (And.intro @md_5 @md_6)) (And.intro (And.intro @md_7 @md_8) (And.intro @md_9 @md_10))) (And.intro (And.intro (And.intro @md_11 @md_12) (And.intro @md_13 @md_14)) (And.intro (And.intro @md_15 @md_16) (And.intro @md_17 @md_18)))) (And.intro (And.intro (And.intro (And.intro @md_19 @md_20) (And.intro @md_21 @md_22)) (And.intro (And.intro @md_23 @md_24) (And.intro @md_25 @md_26))) (And.intro (And.intro (And.intro @md_27 @md_28) (And.intro @md_29 @md_30)) (And.intro (And.intro @md_31 @md_32) (And.intro @md_33 @md_34))))) (And.intro (And.intro (And.intro (And.intro (And.intro @md_35 @md_36) (And.intro @md_37 @md_38)) (And.intro (And.intro @md_39 @md_40) (And.intro @md_41 @md_42))) (And.intro (And.intro (And.intro @md_45 @md_46) (And.intro @md_47 @md_48)) (And.intro (And.intro @md_49 @md_50) (And.intro @md_51 @md_52)))) (And.intro (And.intro (And.intro (And.intro @md_53 @md_54) (And.intro @md_55 @md_56)) (And.intro (And.intro @md_58 @md_59) (And.intro @md_60 @md_61))) (And.intro (And.intro (And.intro @md_62 @md_63) (And.intro @md_64 @md_65)) (And.intro (And.intro @md_66 @md_67) (And.intro @md_68 @md_70)))))) (And.intro (And.intro (And.intro (And.intro (And.intro (And.intro @md_71 @md_74) (And.intro @tr_3 @tr_4)) (And.intro (And.intro @tr_5 @tr_6) (And.intro @tr_7 @tr_8))) (And.intro (And.intro (And.intro @tr_9 @tr_10) (And.intro @tr_11 @tr_12)) (And.intro (And.intro @tr_13 @tr_14) (And.intro @tr_15 @tr_16)))) (And.intro (And.intro (And.intro (And.intro @tr_17 @tr_18) (And.intro @tr_19 @tr_20)) (And.intro (And.intro @tr_21 @tr_22) (And.intro @tr_23 @tr_25))) (And.intro (And.intro (And.intro @tr_26 @tr_27) (And.intro @tr_28 @tr_29)) (And.intro (And.intro @tr_30 @tr_31) (And.intro @tr_32 @tr_33))))) (And.intro (And.intro (And.intro (And.intro (And.intro @tr_34 @tr_35) (And.intro @tr_36 @tr_37)) (And.intro (And.intro @tr_38 @tr_39) (And.intro @tr_40 @tr_41))) (And.intro (And.intro (And.intro @tr_42 @tr_45) (And.intro @tr_46 @tr_47)) (And.intro (And.intro @tr_48 @tr_49) (And.intro @tr_50 @tr_51)))) (And.intro (And.intro (And.intro (And.intro @tr_52 @tr_53) (And.intro @tr_54 @tr_55)) (And.intro (And.intro @tr_56 @tr_58) (And.intro @tr_59 @tr_62))) (And.intro (And.intro (And.intro @tr_63 @tr_64) (And.intro @tr_65 @tr_66)) (And.intro (And.intro @tr_67 @tr_68) (And.intro @tr_70 (And.intro @tr_71 @tr_74)))))))) := (And.intro (And.intro (And.intro (And.intro (And.intro (And.intro (And.intro @md_3 @md_4) (And.intro @md_5 @md_6)) (And.intro (And.intro @md_7 @md_8) (And.intro @md_9 @md_10))) (And.intro (And.intro (And.intro @md_11 @md_12) (And.intro @md_13 @md_14)) (And.intro (And.intro @md_15 @md_16) (And.intro @md_17 @md_18)))) (And.intro (And.intro (And.intro (And.intro @md_19 @md_20) (And.intro @md_21 @md_22)) (And.intro (And.intro @md_23 @md_24) (And.intro @md_25 @md_26))) (And.intro (And.intro (And.intro @md_27 @md_28) (And.intro @md_29 @md_30)) (And.intro (And.intro @md_31 @md_32) (And.intro @md_33 @md_34))))) (And.intro (And.intro (And.intro (And.intro (And.intro @md_35 @md_36) (And.intro @md_37 @md_38)) (And.intro (And.intro @md_39 @md_40) (And.intro @md_41 @md_42))) (And.intro (And.intro (And.intro @md_45 @md_46) (And.intro @md_47 @md_48)) (And.intro (And.intro @md_49 @md_50) (And.intro @md_51 @md_52)))) (And.intro (And.intro (And.intro (And.intro @md_53 @md_54) (And.intro @md_55 @md_56)) (And.intro (And.intro @md_58 @md_59) (And.intro @md_60 @md_61))) (And.intro (And.intro (And.intro @md_62 @md_63) (And.intro @md_64 @md_65)) (And.intro (And.intro @md_66 @md_67) (And.intro @md_68 @md_70)))))) (And.intro (And.intro (And.intro (And.intro (And.intro (And.intro @md_71 @md_74) (And.intro @tr_3 @tr_4)) (And.intro (And.intro @tr_5 @tr_6) (And.intro @tr_7 @tr_8))) (And.intro (And.intro (And.intro @tr_9 @tr_10) (And.intro @tr_11 @tr_12)) (And.intro (And.intro @tr_13 @tr_14) (And.intro @tr_15 @tr_16)))) (And.intro (And.intro (And.intro (And.intro @tr_17 @tr_18) (And.intro @tr_19 @tr_20)) (And.intro (And.intro @tr_21 @tr_22) (And.intro @tr_23 @tr_25))) (And.intro (And.intro (And.intro @tr_26 @tr_27) (And.intro @tr_28 @tr_29)) (And.intro (And.intro @tr_30 @tr_31) (And.intro @tr_32 @tr_33))))) (And.intro (And.intro (And.intro (And.intro (And.intro @tr_34 @tr_35) (And.intro @tr_36 @tr_37)) (And.intro (And.intro @tr_38 @tr_39) (And.intro @tr_40 @tr_41))) (And.intro (And.intro (And.intro @tr_42 @tr_45) (And.intro @tr_46 @tr_47)) (And.intro (And.intro @tr_48 @tr_49) (And.intro @tr_50 @tr_51)))) (And.intro (And.intro (And.intro (And.intro @tr_52 @tr_53) (And.intro @tr_54 @tr_55)) (And.intro (And.intro @tr_56 @tr_58) (And.intro @tr_59 @tr_62))) (And.intro (And.intro (And.intro @tr_63 @tr_64) (And.intro @tr_65 @tr_66)) (And.intro (And.intro @tr_67 @tr_68) (And.intro @tr_70 (And.intro @tr_71 @tr_74))))))))
theorem TIS : type_of% (And.intro (And.intro (And.intro (And.intro @ti3 (And.intro @ti4 @ti5)) (And.intro (And.intro @ti22 @sl22) (And.intro @ti24 @sl24))) (And.intro (And.intro @ti25 (And.intro @sl25 @ti28)) (And.intro (And.intro @is28 @ti30) (And.intro @is30 @ti34)))) (And.intro (And.intro (And.intro @is34 (And.intro @ti63 @is63)) (And.intro (And.intro @ti68 @sl68) (And.intro @ti77 @na77))) (And.intro (And.intro (And.intro @ar77 @ns77) (And.intro @ti79 @is79)) (And.intro (And.intro @ti88 @na88) (And.intro @ar88 @ns88))))) := (And.intro (And.intro (And.intro (And.intro @ti3 (And.intro @ti4 @ti5)) (And.intro (And.intro @ti22 @sl22) (And.intro @ti24 @sl24))) (And.intro (And.intro @ti25 (And.intro @sl25 @ti28)) (And.intro (And.intro @is28 @ti30) (And.intro @is30 @ti34)))) (And.intro (And.intro (And.intro @is34 (And.intro @ti63 @is63)) (And.intro (And.intro @ti68 @sl68) (And.intro @ti77 @na77))) (And.intro (And.intro (And.intro @ar77 @ns77) (And.intro @ti79 @is79)) (And.intro (And.intro @ti88 @na88) (And.intro @ar88 @ns88)))))
end Go.Proofs.Ytggkeechdakccaa.Flat
