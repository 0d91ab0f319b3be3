/-
The program's functions, and how they are reckoned with: tables.
-/
import Derived.Test.YtkadcnfpjppdbaaFlatM5
import Derived.Test.YtkadcnfpjppdbaaProg
import Derived.KernelRfl
set_option linter.unusedVariables false
set_option linter.unusedSimpArgs false
namespace Go.Proofs.Ytkadcnfpjppdbaa.Flat
def keepT : Nat → Nat → List Nat
  | 8, 3 => [1, 4, 5, 13, 14, 15]
  | 12, 8 => [2, 5, 6, 7]
  | 12, 5 => [2, 5, 6]
  | 13, 8 => [2, 5, 6, 7, 23]
  | 13, 5 => [2, 5, 23]
  | 14, 5 => [0, 1, 5]
  | 15, 3 => [1, 2, 3, 4]
  | 17, 3 => [0, 3, 4]
  | 18, 3 => [3, 7, 8, 9]
  | 19, 4 => [0, 1, 5]
  | 20, 2 => [0, 1, 5]
  | 21, 2 => [0, 1, 5]
  | 22, 2 => [1, 3]
  | 23, 5 => [2, 3, 4, 5, 9, 10]
  | 26, 5 => [2, 3, 4, 5, 9, 25, 26]
  | 28, 3 => [1, 2, 3, 4]
  | 30, 3 => [2, 3, 14, 15, 16]
  | 32, 2 => [0, 1, 5]
  | 33, 2 => [0, 1, 5]
  | 35, 3 => [1, 2, 3, 7, 8]
  | 36, 3 => [0, 3, 4]
  | 37, 3 => [0, 1, 5, 6]
  | 38, 3 => [1, 2, 3, 4, 5, 11, 12]
  | 42, 7 => [1, 2, 3, 6, 8, 9, 28, 29]
  | 43, 3 => [1, 5, 8, 9]
  | 44, 3 => [1, 2, 3, 4, 5, 11, 16, 17, 18]
  | 51, 9 => [0, 3, 6]
  | 51, 3 => [0, 3, 5]
  | 53, 2 => [0, 1, 7, 8]
  | 56, 3 => [1, 2, 7, 12, 13, 14]
  | 60, 3 => [2, 5, 8, 9, 10]
  | 61, 5 => [0, 1, 5]
  | 62, 3 => [0, 3, 4]
  | 63, 4 => [0, 1, 5]
  | 65, 3 => [1, 2, 5]
  | 66, 4 => [1, 3]
  | 67, 4 => [2, 3, 5]
  | 71, 3 => [3, 7, 8, 9]
  | 73, 4 => [1, 28, 29, 30]
  | 77, 2 => [0, 1, 7, 8]
  | 81, 2 => [1, 2, 3, 7]
  | 86, 2 => [0, 3, 7, 8]
  | 87, 4 => [1, 2, 15, 16, 17]
  | _, _ => []
def planT : Nat → Nat → List (Qt × Nat)
  | 3, 10 => [(.no, 0), (.no, 1), (.quiet, 2), (.no, 3), (.no, 4)]
  | 4, 10 => [(.no, 0), (.no, 1), (.quiet, 2), (.no, 3), (.no, 4)]
  | 6, 3 => [(.frz 5, 1), (.no, 2), (.no, 3), (.no, 4), (.no, 6), (.no, 7), (.no, 8), (.no, 9), (.no, 10), (.soft [15, 20] [1, 5, 15, 16, 17, 18, 20, 21, 22, 23, 24], 0), (.soft [20] [1, 5, 20, 21, 22, 23, 24], 5), (.no, 11), (.no, 12), (.no, 13)]
  | 19, 6 => [(.no, 0), (.no, 1), (.no, 2), (.no, 3), (.no, 4), (.no, 5), (.no, 6), (.no, 7), (.no, 8), (.no, 9)]
  | 23, 8 => [(.no, 0), (.no, 1), (.no, 2), (.no, 3), (.no, 4), (.no, 6), (.no, 7), (.no, 8), (.no, 9), (.no, 10), (.quiet, 5), (.no, 11), (.no, 12)]
  | 26, 8 => [(.no, 0), (.no, 1), (.no, 2), (.no, 3), (.no, 4), (.no, 5), (.no, 7), (.no, 8), (.no, 9), (.no, 10), (.no, 11), (.no, 12), (.quiet, 6), (.no, 13), (.no, 14)]
  | 28, 5 => [(.no, 0), (.no, 1), (.no, 2), (.no, 3), (.no, 4), (.no, 5), (.no, 6), (.quiet, 7), (.soft [19] [3, 19, 20], 8), (.no, 9), (.no, 10), (.no, 11)]
  | 30, 5 => [(.no, 0), (.no, 1), (.no, 2), (.quiet, 3), (.soft [20] [3, 20, 21], 4), (.no, 5), (.no, 6), (.no, 7)]
  | 42, 9 => [(.no, 0), (.no, 1), (.no, 2), (.no, 3), (.no, 4), (.no, 5), (.no, 6), (.no, 7), (.quiet, 8), (.quiet, 9), (.soft [] [9, 32], 10), (.no, 11), (.no, 12)]
  | 51, 5 => [(.no, 0), (.no, 1), (.no, 2), (.no, 3), (.no, 4), (.no, 5)]
  | 63, 6 => [(.no, 0), (.no, 1), (.no, 2), (.no, 3), (.no, 4), (.no, 5), (.no, 6), (.no, 7), (.no, 8), (.no, 9)]
  | 67, 6 => [(.no, 0), (.no, 1), (.no, 2), (.no, 3), (.no, 4), (.no, 5), (.no, 6), (.no, 7), (.no, 8), (.no, 9), (.no, 10), (.no, 11)]
  | 74, 10 => [(.no, 0), (.no, 1), (.no, 2), (.no, 3), (.no, 4), (.no, 5), (.no, 6)]
  | 74, 13 => [(.no, 0), (.no, 1), (.no, 2), (.no, 3), (.no, 4), (.no, 5), (.soft [59] [0, 56, 57, 58, 59, 60], 6), (.soft [] [0, 56], 7), (.no, 8), (.no, 9), (.no, 10)]
  | 80, 13 => [(.no, 0), (.no, 1), (.no, 2), (.no, 3), (.no, 4), (.no, 5), (.no, 6), (.no, 7), (.no, 8), (.no, 9), (.quiet, 10), (.no, 11), (.no, 12), (.no, 13)]
  | 81, 4 => [(.no, 0), (.no, 1), (.no, 2), (.no, 3), (.no, 4), (.no, 5)]
  | 82, 12 => [(.no, 0), (.no, 1), (.no, 2), (.no, 3), (.no, 4), (.quiet, 5), (.no, 6), (.no, 7), (.no, 8), (.no, 9), (.no, 10), (.no, 11), (.no, 12), (.no, 13), (.no, 14), (.no, 15), (.no, 16), (.no, 17), (.no, 18), (.no, 19)]
  | 86, 4 => [(.no, 0), (.no, 1), (.no, 2), (.no, 3), (.no, 4), (.no, 5)]
  | _, _ => []
def okT : List Nat := [3, 4, 5, 6, 7, 8, 9, 10, 11, 12, 13, 14, 15, 16, 17, 18, 19, 20, 21, 22, 23, 24, 25, 26, 27, 28, 29, 30, 31, 32, 33, 34, 35, 36, 37, 38, 39, 40, 41, 42, 43, 44, 45, 46, 47, 48, 49, 50, 51, 52, 53, 54, 55, 56, 57, 58, 59, 60, 61, 62, 63, 64, 65, 66, 67, 68, 69, 70, 71, 72, 73, 74, 75, 76, 77, 78, 79, 80, 81, 82, 83, 84, 85, 86, 87, 88, 89, 90]
def treeT : List Nat := [15, 28, 30]
def mdT : Nat → List Mode
  | 10 => [.«mut», .ro]
  | 20 => [.«mut», .ro]
  | 32 => [.«mut», .ro]
  | 51 => [.give, .ro]
  | 73 => [.ro, .give]
  | 74 => [.io, .ro, .ro, .ro]
  | _ => []
noncomputable def E : Env := { P := Go.Proofs.Try.prog, md := mdT, keep := keepT, plan := planT, ok := fun f => okT.contains f, tree := fun f => treeT.contains f }
theorem mixed : E.P.follows .mixedOrders = true := by kernel_rfl
/-- One function's check. -/
def good1 (P : Program) (plan : Nat → Nat → List (Qt × Nat)) (md : Nat → List Mode) (f : Nat) : Bool :=
  match P.funcs[f]? with
  | some fn => (match fn.body with | some c => codeOK (plan f) c && codePin (mutSlots 0 (md f)) c | none => true) && !(fn.name == "runtime.NumGoroutine")
  | none => true
theorem good1_ok {E : Env} {l : List Nat} (ho : ∀ f, E.ok f = true → f ∈ l) (h : l.all (good1 E.P E.plan E.md) = true) : Sound E := by
  intro f hf fn c hfn hc
  have h1 := List.all_eq_true.1 h f (ho f hf)
  simp -implicitDefEqProofs only [good1, hfn, hc, Bool.and_eq_true, Bool.not_eq_true', beq_eq_false_iff_ne, ne_eq] at h1
  exact ⟨h1.1.1, h1.2, h1.1.2⟩
theorem sound : Sound E := good1_ok (l := okT) (fun f hf => by simpa [E] using hf) (by kernel_rfl)
abbrev noExt : Nat → Option (List AV → List (List AV) → Option (AV × List (List AV))) := fun _ => none
theorem hext : ∀ f g, noExt f = some g → ∀ args ios ret fin, g args ios = some (ret, fin) → Enters E.P f ∧ CallOK E.P (E.md f) f args ios ret fin := fun f g hg => by simp [noExt] at hg
abbrev tBool : Nat := 4
theorem tagBool : tagOf E.P 4 = .bool := by kernel_rfl
theorem one_ne : (1 = 0) = False := by simp
theorem ti3 : tiOf E.P 3 = some { tag := Tag.int IntKind.i64, agg := false, size := 1, bytes := 8, zero := some (Value.int IntKind.i64 0), elem := 0, fields := [], eqs := none } := by kernel_rfl
theorem ti4 : tiOf E.P 4 = some { tag := Tag.bool, agg := false, size := 1, bytes := 1, zero := some (Value.bool false), elem := 0, fields := [], eqs := none } := by kernel_rfl
theorem ti22 : tiOf E.P 22 = some { tag := Tag.slice, agg := false, size := 1, bytes := 24, zero := some (Value.slice none 0 0), elem := 54, fields := [], eqs := none } := by kernel_rfl
theorem sl22 : isSliceT E.P 22 = true := by kernel_rfl
theorem ti24 : tiOf E.P 24 = some { tag := Tag.struct, agg := true, size := 2, bytes := 32, zero := some (Value.agg #[Value.int IntKind.i64 0, Value.slice none 0 0]), elem := 0, fields := [(0, 1, false), (1, 1, false)], eqs := none } := by kernel_rfl
theorem is24 : isStructT E.P 24 = true := by kernel_rfl
theorem ti26 : tiOf E.P 26 = some { tag := Tag.slice, agg := false, size := 1, bytes := 24, zero := some (Value.slice none 0 0), elem := 44, fields := [], eqs := none } := by kernel_rfl
theorem sl26 : isSliceT E.P 26 = true := by kernel_rfl
theorem ti28 : tiOf E.P 28 = some { tag := Tag.struct, agg := true, size := 2, bytes := 32, zero := some (Value.agg #[Value.int IntKind.i64 0, Value.slice none 0 0]), elem := 0, fields := [(0, 1, false), (1, 1, false)], eqs := none } := by kernel_rfl
theorem is28 : isStructT E.P 28 = true := by kernel_rfl
theorem ti40 : tiOf E.P 40 = some { tag := Tag.slice, agg := false, size := 1, bytes := 24, zero := some (Value.slice none 0 0), elem := 42, fields := [], eqs := none } := by kernel_rfl
theorem sl40 : isSliceT E.P 40 = true := by kernel_rfl
theorem ti42 : tiOf E.P 42 = some { tag := Tag.struct, agg := true, size := 4, bytes := 48, zero := some (Value.agg #[Value.int IntKind.i64 0, Value.int IntKind.i64 0, Value.int IntKind.i64 0, Value.slice none 0 0]), elem := 0, fields := [(0, 1, false), (1, 1, false), (2, 1, false), (3, 1, false)], eqs := none } := by kernel_rfl
theorem is42 : isStructT E.P 42 = true := by kernel_rfl
theorem ti44 : tiOf E.P 44 = some { tag := Tag.struct, agg := true, size := 7, bytes := 72, zero := some (Value.agg #[Value.int IntKind.i64 0, Value.int IntKind.i64 0, Value.int IntKind.i64 0, Value.int IntKind.i64 0, Value.int IntKind.i64 0, Value.int IntKind.i64 0, Value.slice none 0 0]), elem := 0, fields := [(0, 1, false), (1, 1, false), (2, 1, false), (3, 4, true)], eqs := none } := by kernel_rfl
theorem is44 : isStructT E.P 44 = true := by kernel_rfl
theorem ti50 : tiOf E.P 50 = some { tag := Tag.slice, agg := false, size := 1, bytes := 24, zero := some (Value.slice none 0 0), elem := 52, fields := [], eqs := none } := by kernel_rfl
theorem sl50 : isSliceT E.P 50 = true := by kernel_rfl
theorem ti52 : tiOf E.P 52 = some { tag := Tag.struct, agg := true, size := 4, bytes := 48, zero := some (Value.agg #[Value.int IntKind.i64 0, Value.int IntKind.i64 0, Value.int IntKind.i64 0, Value.slice none 0 0]), elem := 0, fields := [(0, 1, false), (1, 1, false), (2, 1, false), (3, 1, false)], eqs := none } := by kernel_rfl
theorem is52 : isStructT E.P 52 = true := by kernel_rfl
theorem ti54 : tiOf E.P 54 = some { tag := Tag.struct, agg := true, size := 7, bytes := 72, zero := some (Value.agg #[Value.int IntKind.i64 0, Value.int IntKind.i64 0, Value.int IntKind.i64 0, Value.int IntKind.i64 0, Value.int IntKind.i64 0, Value.int IntKind.i64 0, Value.slice none 0 0]), elem := 0, fields := [(0, 1, false), (1, 1, false), (2, 1, false), (3, 4, true)], eqs := none } := by kernel_rfl
theorem is54 : isStructT E.P 54 = true := by kernel_rfl
theorem ti62 : tiOf E.P 62 = some { tag := Tag.slice, agg := false, size := 1, bytes := 24, zero := some (Value.slice none 0 0), elem := 4, fields := [], eqs := none } := by kernel_rfl
theorem sl62 : isSliceT E.P 62 = true := by kernel_rfl
theorem ti66 : tiOf E.P 66 = some { tag := Tag.slice, agg := false, size := 1, bytes := 24, zero := some (Value.slice none 0 0), elem := 99, fields := [], eqs := none } := by kernel_rfl
theorem sl66 : isSliceT E.P 66 = true := by kernel_rfl
theorem ti68 : tiOf E.P 68 = some { tag := Tag.struct, agg := true, size := 3, bytes := 40, zero := some (Value.agg #[Value.int IntKind.i64 0, Value.slice none 0 0, Value.int IntKind.i64 0]), elem := 0, fields := [(0, 1, false), (1, 1, false), (2, 1, false)], eqs := none } := by kernel_rfl
theorem is68 : isStructT E.P 68 = true := by kernel_rfl
theorem ti70 : tiOf E.P 70 = some { tag := Tag.struct, agg := true, size := 5, bytes := 72, zero := some (Value.agg #[Value.slice none 0 0, Value.int IntKind.i64 0, Value.slice none 0 0, Value.int IntKind.i64 0, Value.int IntKind.i64 0]), elem := 0, fields := [(0, 1, false), (1, 3, true), (4, 1, false)], eqs := none } := by kernel_rfl
theorem is70 : isStructT E.P 70 = true := by kernel_rfl
theorem ti84 : tiOf E.P 84 = some { tag := Tag.slice, agg := false, size := 1, bytes := 24, zero := some (Value.slice none 0 0), elem := 3, fields := [], eqs := none } := by kernel_rfl
theorem sl84 : isSliceT E.P 84 = true := by kernel_rfl
theorem ti99 : tiOf E.P 99 = some { tag := Tag.struct, agg := true, size := 3, bytes := 24, zero := some (Value.agg #[Value.int IntKind.i64 0, Value.int IntKind.i64 0, Value.int IntKind.i64 0]), elem := 0, fields := [(0, 1, false), (1, 1, false), (2, 1, false)], eqs := some [0, 0, 0] } := by kernel_rfl
theorem is99 : isStructT E.P 99 = true := by kernel_rfl
theorem plan_3_10 : E.plan 3 10 = [(.no, 0), (.no, 1), (.quiet, 2), (.no, 3), (.no, 4)] := rfl
theorem plan_4_10 : E.plan 4 10 = [(.no, 0), (.no, 1), (.quiet, 2), (.no, 3), (.no, 4)] := rfl
theorem plan_6_3 : E.plan 6 3 = [(.frz 5, 1), (.no, 2), (.no, 3), (.no, 4), (.no, 6), (.no, 7), (.no, 8), (.no, 9), (.no, 10), (.soft [15, 20] [1, 5, 15, 16, 17, 18, 20, 21, 22, 23, 24], 0), (.soft [20] [1, 5, 20, 21, 22, 23, 24], 5), (.no, 11), (.no, 12), (.no, 13)] := rfl
theorem plan_19_6 : E.plan 19 6 = [(.no, 0), (.no, 1), (.no, 2), (.no, 3), (.no, 4), (.no, 5), (.no, 6), (.no, 7), (.no, 8), (.no, 9)] := rfl
theorem plan_23_8 : E.plan 23 8 = [(.no, 0), (.no, 1), (.no, 2), (.no, 3), (.no, 4), (.no, 6), (.no, 7), (.no, 8), (.no, 9), (.no, 10), (.quiet, 5), (.no, 11), (.no, 12)] := rfl
theorem plan_26_8 : E.plan 26 8 = [(.no, 0), (.no, 1), (.no, 2), (.no, 3), (.no, 4), (.no, 5), (.no, 7), (.no, 8), (.no, 9), (.no, 10), (.no, 11), (.no, 12), (.quiet, 6), (.no, 13), (.no, 14)] := rfl
theorem plan_28_5 : E.plan 28 5 = [(.no, 0), (.no, 1), (.no, 2), (.no, 3), (.no, 4), (.no, 5), (.no, 6), (.quiet, 7), (.soft [19] [3, 19, 20], 8), (.no, 9), (.no, 10), (.no, 11)] := rfl
theorem plan_30_5 : E.plan 30 5 = [(.no, 0), (.no, 1), (.no, 2), (.quiet, 3), (.soft [20] [3, 20, 21], 4), (.no, 5), (.no, 6), (.no, 7)] := rfl
theorem plan_42_9 : E.plan 42 9 = [(.no, 0), (.no, 1), (.no, 2), (.no, 3), (.no, 4), (.no, 5), (.no, 6), (.no, 7), (.quiet, 8), (.quiet, 9), (.soft [] [9, 32], 10), (.no, 11), (.no, 12)] := rfl
theorem plan_51_5 : E.plan 51 5 = [(.no, 0), (.no, 1), (.no, 2), (.no, 3), (.no, 4), (.no, 5)] := rfl
theorem plan_63_6 : E.plan 63 6 = [(.no, 0), (.no, 1), (.no, 2), (.no, 3), (.no, 4), (.no, 5), (.no, 6), (.no, 7), (.no, 8), (.no, 9)] := rfl
theorem plan_67_6 : E.plan 67 6 = [(.no, 0), (.no, 1), (.no, 2), (.no, 3), (.no, 4), (.no, 5), (.no, 6), (.no, 7), (.no, 8), (.no, 9), (.no, 10), (.no, 11)] := rfl
theorem plan_74_10 : E.plan 74 10 = [(.no, 0), (.no, 1), (.no, 2), (.no, 3), (.no, 4), (.no, 5), (.no, 6)] := rfl
theorem plan_74_13 : E.plan 74 13 = [(.no, 0), (.no, 1), (.no, 2), (.no, 3), (.no, 4), (.no, 5), (.soft [59] [0, 56, 57, 58, 59, 60], 6), (.soft [] [0, 56], 7), (.no, 8), (.no, 9), (.no, 10)] := rfl
theorem plan_80_13 : E.plan 80 13 = [(.no, 0), (.no, 1), (.no, 2), (.no, 3), (.no, 4), (.no, 5), (.no, 6), (.no, 7), (.no, 8), (.no, 9), (.quiet, 10), (.no, 11), (.no, 12), (.no, 13)] := rfl
theorem plan_81_4 : E.plan 81 4 = [(.no, 0), (.no, 1), (.no, 2), (.no, 3), (.no, 4), (.no, 5)] := rfl
theorem plan_82_12 : E.plan 82 12 = [(.no, 0), (.no, 1), (.no, 2), (.no, 3), (.no, 4), (.quiet, 5), (.no, 6), (.no, 7), (.no, 8), (.no, 9), (.no, 10), (.no, 11), (.no, 12), (.no, 13), (.no, 14), (.no, 15), (.no, 16), (.no, 17), (.no, 18), (.no, 19)] := rfl
theorem plan_86_4 : E.plan 86 4 = [(.no, 0), (.no, 1), (.no, 2), (.no, 3), (.no, 4), (.no, 5)] := rfl
theorem keep_8_3 : E.keep 8 3 = [1, 4, 5, 13, 14, 15] := rfl
theorem keep_12_8 : E.keep 12 8 = [2, 5, 6, 7] := rfl
theorem keep_12_5 : E.keep 12 5 = [2, 5, 6] := rfl
theorem keep_13_8 : E.keep 13 8 = [2, 5, 6, 7, 23] := rfl
theorem keep_13_5 : E.keep 13 5 = [2, 5, 23] := rfl
theorem keep_14_5 : E.keep 14 5 = [0, 1, 5] := rfl
theorem keep_15_3 : E.keep 15 3 = [1, 2, 3, 4] := rfl
theorem keep_17_3 : E.keep 17 3 = [0, 3, 4] := rfl
theorem keep_18_3 : E.keep 18 3 = [3, 7, 8, 9] := rfl
theorem keep_19_4 : E.keep 19 4 = [0, 1, 5] := rfl
theorem keep_20_2 : E.keep 20 2 = [0, 1, 5] := rfl
theorem keep_21_2 : E.keep 21 2 = [0, 1, 5] := rfl
theorem keep_22_2 : E.keep 22 2 = [1, 3] := rfl
theorem keep_23_5 : E.keep 23 5 = [2, 3, 4, 5, 9, 10] := rfl
theorem keep_26_5 : E.keep 26 5 = [2, 3, 4, 5, 9, 25, 26] := rfl
theorem keep_28_3 : E.keep 28 3 = [1, 2, 3, 4] := rfl
theorem keep_30_3 : E.keep 30 3 = [2, 3, 14, 15, 16] := rfl
theorem keep_32_2 : E.keep 32 2 = [0, 1, 5] := rfl
theorem keep_33_2 : E.keep 33 2 = [0, 1, 5] := rfl
theorem keep_35_3 : E.keep 35 3 = [1, 2, 3, 7, 8] := rfl
theorem keep_36_3 : E.keep 36 3 = [0, 3, 4] := rfl
theorem keep_37_3 : E.keep 37 3 = [0, 1, 5, 6] := rfl
theorem keep_38_3 : E.keep 38 3 = [1, 2, 3, 4, 5, 11, 12] := rfl
theorem keep_42_7 : E.keep 42 7 = [1, 2, 3, 6, 8, 9, 28, 29] := rfl
theorem keep_43_3 : E.keep 43 3 = [1, 5, 8, 9] := rfl
theorem keep_44_3 : E.keep 44 3 = [1, 2, 3, 4, 5, 11, 16, 17, 18] := rfl
theorem keep_51_9 : E.keep 51 9 = [0, 3, 6] := rfl
theorem keep_51_3 : E.keep 51 3 = [0, 3, 5] := rfl
theorem keep_53_2 : E.keep 53 2 = [0, 1, 7, 8] := rfl
theorem keep_56_3 : E.keep 56 3 = [1, 2, 7, 12, 13, 14] := rfl
theorem keep_60_3 : E.keep 60 3 = [2, 5, 8, 9, 10] := rfl
theorem keep_61_5 : E.keep 61 5 = [0, 1, 5] := rfl
theorem keep_62_3 : E.keep 62 3 = [0, 3, 4] := rfl
theorem keep_63_4 : E.keep 63 4 = [0, 1, 5] := rfl
theorem keep_65_3 : E.keep 65 3 = [1, 2, 5] := rfl
theorem keep_66_4 : E.keep 66 4 = [1, 3] := rfl
theorem keep_67_4 : E.keep 67 4 = [2, 3, 5] := rfl
theorem keep_71_3 : E.keep 71 3 = [3, 7, 8, 9] := rfl
theorem keep_73_4 : E.keep 73 4 = [1, 28, 29, 30] := rfl
theorem keep_77_2 : E.keep 77 2 = [0, 1, 7, 8] := rfl
theorem keep_81_2 : E.keep 81 2 = [1, 2, 3, 7] := rfl
theorem keep_86_2 : E.keep 86 2 = [0, 3, 7, 8] := rfl
theorem keep_87_4 : E.keep 87 4 = [1, 2, 15, 16, 17] := rfl
theorem md_3 : E.md 3 = [] := rfl
theorem md_4 : E.md 4 = [] := rfl
theorem md_5 : E.md 5 = [] := rfl
theorem md_6 : E.md 6 = [] := rfl
theorem md_7 : E.md 7 = [] := rfl
theorem md_8 : E.md 8 = [] := rfl
theorem md_9 : E.md 9 = [] := rfl
theorem md_10 : E.md 10 = [.«mut», .ro] := rfl
theorem md_11 : E.md 11 = [] := rfl
theorem md_12 : E.md 12 = [] := rfl
theorem md_13 : E.md 13 = [] := rfl
theorem md_14 : E.md 14 = [] := rfl
theorem md_15 : E.md 15 = [] := rfl
theorem md_16 : E.md 16 = [] := rfl
theorem md_17 : E.md 17 = [] := rfl
theorem md_18 : E.md 18 = [] := rfl
theorem md_19 : E.md 19 = [] := rfl
theorem md_20 : E.md 20 = [.«mut», .ro] := rfl
theorem md_21 : E.md 21 = [] := rfl
theorem md_22 : E.md 22 = [] := rfl
theorem md_23 : E.md 23 = [] := rfl
theorem md_24 : E.md 24 = [] := rfl
theorem md_25 : E.md 25 = [] := rfl
theorem md_26 : E.md 26 = [] := rfl
theorem md_27 : E.md 27 = [] := rfl
theorem md_28 : E.md 28 = [] := rfl
theorem md_29 : E.md 29 = [] := rfl
theorem md_30 : E.md 30 = [] := rfl
theorem md_31 : E.md 31 = [] := rfl
theorem md_32 : E.md 32 = [.«mut», .ro] := rfl
theorem md_33 : E.md 33 = [] := rfl
theorem md_34 : E.md 34 = [] := rfl
theorem md_35 : E.md 35 = [] := rfl
theorem md_36 : E.md 36 = [] := rfl
theorem md_37 : E.md 37 = [] := rfl
theorem md_38 : E.md 38 = [] := rfl
theorem md_39 : E.md 39 = [] := rfl
theorem md_40 : E.md 40 = [] := rfl
theorem md_41 : E.md 41 = [] := rfl
theorem md_42 : E.md 42 = [] := rfl
theorem md_43 : E.md 43 = [] := rfl
theorem md_44 : E.md 44 = [] := rfl
theorem md_45 : E.md 45 = [] := rfl
theorem md_46 : E.md 46 = [] := rfl
theorem md_47 : E.md 47 = [] := rfl
theorem md_48 : E.md 48 = [] := rfl
theorem md_49 : E.md 49 = [] := rfl
theorem md_50 : E.md 50 = [] := rfl
theorem md_51 : E.md 51 = [.give, .ro] := rfl
theorem md_52 : E.md 52 = [] := rfl
theorem md_53 : E.md 53 = [] := rfl
theorem md_54 : E.md 54 = [] := rfl
theorem md_55 : E.md 55 = [] := rfl
theorem md_56 : E.md 56 = [] := rfl
theorem md_57 : E.md 57 = [] := rfl
theorem md_58 : E.md 58 = [] := rfl
theorem md_59 : E.md 59 = [] := rfl
theorem md_60 : E.md 60 = [] := rfl
theorem md_61 : E.md 61 = [] := rfl
theorem md_62 : E.md 62 = [] := rfl
theorem md_63 : E.md 63 = [] := rfl
theorem md_64 : E.md 64 = [] := rfl
theorem md_65 : E.md 65 = [] := rfl
theorem md_66 : E.md 66 = [] := rfl
theorem md_67 : E.md 67 = [] := rfl
theorem md_68 : E.md 68 = [] := rfl
theorem md_69 : E.md 69 = [] := rfl
theorem md_70 : E.md 70 = [] := rfl
theorem md_71 : E.md 71 = [] := rfl
theorem md_72 : E.md 72 = [] := rfl
theorem md_73 : E.md 73 = [.ro, .give] := rfl
theorem md_74 : E.md 74 = [.io, .ro, .ro, .ro] := rfl
theorem md_75 : E.md 75 = [] := rfl
theorem md_76 : E.md 76 = [] := rfl
theorem md_77 : E.md 77 = [] := rfl
theorem md_78 : E.md 78 = [] := rfl
theorem md_79 : E.md 79 = [] := rfl
theorem md_80 : E.md 80 = [] := rfl
theorem md_81 : E.md 81 = [] := rfl
theorem md_82 : E.md 82 = [] := rfl
theorem md_83 : E.md 83 = [] := rfl
theorem md_84 : E.md 84 = [] := rfl
theorem md_85 : E.md 85 = [] := rfl
theorem md_86 : E.md 86 = [] := rfl
theorem md_87 : E.md 87 = [] := rfl
theorem md_88 : E.md 88 = [] := rfl
theorem md_89 : E.md 89 = [] := rfl
theorem md_90 : E.md 90 = [] := rfl
theorem tr_3 : E.tree 3 = false := rfl
theorem tr_4 : E.tree 4 = false := rfl
theorem tr_5 : E.tree 5 = false := rfl
theorem tr_6 : E.tree 6 = false := rfl
theorem tr_7 : E.tree 7 = false := rfl
theorem tr_8 : E.tree 8 = false := rfl
theorem tr_9 : E.tree 9 = false := rfl
theorem tr_10 : E.tree 10 = false := rfl
theorem tr_11 : E.tree 11 = false := rfl
theorem tr_12 : E.tree 12 = false := rfl
theorem tr_13 : E.tree 13 = false := rfl
theorem tr_14 : E.tree 14 = false := rfl
theorem tr_15 : E.tree 15 = true := rfl
theorem tr_16 : E.tree 16 = false := rfl
theorem tr_17 : E.tree 17 = false := rfl
theorem tr_18 : E.tree 18 = false := rfl
theorem tr_19 : E.tree 19 = false := rfl
theorem tr_20 : E.tree 20 = false := rfl
theorem tr_21 : E.tree 21 = false := rfl
theorem tr_22 : E.tree 22 = false := rfl
theorem tr_23 : E.tree 23 = false := rfl
theorem tr_24 : E.tree 24 = false := rfl
theorem tr_25 : E.tree 25 = false := rfl
theorem tr_26 : E.tree 26 = false := rfl
theorem tr_27 : E.tree 27 = false := rfl
theorem tr_28 : E.tree 28 = true := rfl
theorem tr_29 : E.tree 29 = false := rfl
theorem tr_30 : E.tree 30 = true := rfl
theorem tr_31 : E.tree 31 = false := rfl
theorem tr_32 : E.tree 32 = false := rfl
theorem tr_33 : E.tree 33 = false := rfl
theorem tr_34 : E.tree 34 = false := rfl
theorem tr_35 : E.tree 35 = false := rfl
theorem tr_36 : E.tree 36 = false := rfl
theorem tr_37 : E.tree 37 = false := rfl
theorem tr_38 : E.tree 38 = false := rfl
theorem tr_39 : E.tree 39 = false := rfl
theorem tr_40 : E.tree 40 = false := rfl
theorem tr_41 : E.tree 41 = false := rfl
theorem tr_42 : E.tree 42 = false := rfl
theorem tr_43 : E.tree 43 = false := rfl
theorem tr_44 : E.tree 44 = false := rfl
theorem tr_45 : E.tree 45 = false := rfl
theorem tr_46 : E.tree 46 = false := rfl
theorem tr_47 : E.tree 47 = false := rfl
theorem tr_48 : E.tree 48 = false := rfl
theorem tr_49 : E.tree 49 = false := rfl
theorem tr_50 : E.tree 50 = false := rfl
theorem tr_51 : E.tree 51 = false := rfl
theorem tr_52 : E.tree 52 = false := rfl
theorem tr_53 : E.tree 53 = false := rfl
theorem tr_54 : E.tree 54 = false := rfl
theorem tr_55 : E.tree 55 = false := rfl
theorem tr_56 : E.tree 56 = false := rfl
theorem tr_57 : E.tree 57 = false := rfl
theorem tr_58 : E.tree 58 = false := rfl
theorem tr_59 : E.tree 59 = false := rfl
theorem tr_60 : E.tree 60 = false := rfl
theorem tr_61 : E.tree 61 = false := rfl
theorem tr_62 : E.tree 62 = false := rfl
theorem tr_63 : E.tree 63 = false := rfl
theorem tr_64 : E.tree 64 = false := rfl
theorem tr_65 : E.tree 65 = false := rfl
theorem tr_66 : E.tree 66 = false := rfl
theorem tr_67 : E.tree 67 = false := rfl
theorem tr_68 : E.tree 68 = false := rfl
theorem tr_69 : E.tree 69 = false := rfl
theorem tr_70 : E.tree 70 = false := rfl
theorem tr_71 : E.tree 71 = false := rfl
theorem tr_72 : E.tree 72 = false := rfl
theorem tr_73 : E.tree 73 = false := rfl
theorem tr_74 : E.tree 74 = false := rfl
theorem tr_75 : E.tree 75 = false := rfl
theorem tr_76 : E.tree 76 = false := rfl
theorem tr_77 : E.tree 77 = false := rfl
theorem tr_78 : E.tree 78 = false := rfl
theorem tr_79 : E.tree 79 = false := rfl
theorem tr_80 : E.tree 80 = false := rfl
theorem tr_81 : E.tree 81 = false := rfl
theorem tr_82 : E.tree 82 = false := rfl
theorem tr_83 : E.tree 83 = false := rfl
theorem tr_84 : E.tree 84 = false := rfl
theorem tr_85 : E.tree 85 = false := rfl
theorem tr_86 : E.tree 86 = false := rfl
theorem tr_87 : E.tree 87 = false := rfl
theorem tr_88 : E.tree 88 = false := rfl
theorem tr_89 : E.tree 89 = false := rfl
theorem tr_90 : E.tree 90 = false := rfl
theorem MDS : type_of% (And.intro (And.intro (And.intro (And.intro (And.intro (And.intro (And.intro @md_3 @md_4) (And.intro @md_5 (And.intro @md_6 @md_7))) (And.intro (And.intro @md_8 (And.intro @md_9 @md_10)) (And.intro @md_11 (And.intro @md_12 @md_13)))) (And.intro (And.intro (And.intro @md_14 @md_15) (And.intro @md_16 (And.intro @md_17 @md_18))) (And.intro (And.intro @md_19 (And.intro @md_20 @md_21)) (And.intro @md_22 (And.intro @md_23 @md_24))))) (And.intro (And.intro (And.intro (And.intro @md_25 @md_26) (And.intro @md_27 (And.intro @md_28 @md_29))) (And.intro (And.intro @md_30 (And.intro @md_31 @md_32)) (And.intro @md_33 (And.intro @md_34 @md_35)))) (And.intro (And.intro (And.intro @md_36 @md_37) (And.intro @md_38 (And.intro @md_39 @md_40))) (And.intro (And.intro @md_41 (And.intro @md_42 @md_43)) (And.intro @md_44 (And.intro @md_45 @md_46)))))) (And.intro (And.intro (And.intro (And.intro (And.intro @md_47 @md_48) (And.intro @md_49 (And.intro @md_50 @md_51))) (And.intro (And.intro @md_52 (And.intro @md_53 @md_54)) (And.intro @md_55 (And.intro @md_56 @md_57)))) (And.intro (And.intro (And.intro @md_58 @md_59) (And.intro @md_60 (And.intro @md_61 @md_62))) (And.intro (And.intro @md_63 (And.intro @md_64 @md_65)) (And.intro @md_66 (And.intro @md_67 @md_68))))) (And.intro (And.intro (And.intro (And.intro @md_69 @md_70) (And.intro @md_71 (And.intro @md_72 @md_73))) (And.intro (And.intro @md_74 (And.intro @md_75 @md_76)) (And.intro @md_77 (And.intro @md_78 @md_79)))) (And.intro (And.intro (And.intro @md_80 @md_81) (And.intro @md_82 (And.intro @md_83 @md_84))) (And.intro (And.intro @md_85 (And.intro @md_86 @md_87)) (And.intro @md_88 (And.intro @md_89 @md_90))))))) (And.intro (And.intro (And.intro (And.intro (And.intro (And.intro @tr_3 @tr_4) (And.intro @tr_5 (And.intro @tr_6 @tr_7))) (And.intro (And.intro @tr_8 (And.intro @tr_9 @tr_10)) (And.intro @tr_11 (And.intro @tr_12 @tr_13)))) (And.intro (And.intro (And.intro @tr_14 @tr_15) (And.intro @tr_16 (And.intro @tr_17 @tr_18))) (And.intro (And.intro @tr_19 (And.intro @tr_20 @tr_21)) (And.intro @tr_22 (And.intro @tr_23 @tr_24))))) (And.intro (And.intro (And.intro (And.intro @tr_25 @tr_26) (And.intro @tr_27 (And.intro @tr_28 @tr_29))) (And.intro (And.intro @tr_30 (And.intro @tr_31 @tr_32)) (And.intro @tr_33 (And.intro @tr_34 @tr_35)))) (And.intro (And.intro (And.intro @tr_36 @tr_37) (And.intro @tr_38 (And.intro @tr_39 @tr_40))) (And.intro (And.intro @tr_41 (And.intro @tr_42 @tr_43)) (And.intro @tr_44 (And.intro @tr_45 @tr_46)))))) (And.intro (And.intro (And.intro (And.intro (And.intro @tr_47 @tr_48) (And.intro @tr_49 (And.intro @tr_50 @tr_51))) (And.intro (And.intro @tr_52 (And.intro @tr_53 @tr_54)) (And.intro @tr_55 (And.intro @tr_56 @tr_57)))) (And.intro (And.intro (And.intro @tr_58 @tr_59) (And.intro @tr_60 (And.intro @tr_61 @tr_62))) (And.intro (And.intro @tr_63 (And.intro @tr_64 @tr_65)) (And.intro @tr_66 (And.intro @tr_67 @tr_68))))) (And.intro (And.intro (And.intro (And.intro @tr_69 @tr_70) (And.intro @tr_71 (And.intro @tr_72 @tr_73))) (And.intro (And.intro @tr_74 (And.intro @tr_75 @tr_76)) (And.intro @tr_77 (And.intro @tr_78 @tr_79)))) (And.intro (And.intro (And.intro @tr_80 @tr_81) (And.intro @tr_82 (And.intro @tr_83 @tr_84))) (And.intro (And.intro @tr_85 (And.intro @tr_86 @tr_87)) (And.intro @tr_88 (And.intro @tr_89 @tr_90)))))))) := (And.intro (And.intro (And.intro (And.intro (And.intro (And.intro (And.intro @md_3 @md_4) (And.intro @md_5 (And.intro @md_6 @md_7))) (And.intro (And.intro @md_8 (And.intro @md_9 @md_10)) (And.intro @md_11 (And.intro @md_12 @md_13)))) (And.intro (And.intro (And.intro @md_14 @md_15) (And.intro @md_16 (And.intro @md_17 @md_18))) (And.intro (And.intro @md_19 (And.intro @md_20 @md_21)) (And.intro @md_22 (And.intro @md_23 @md_24))))) (And.intro (And.intro (And.intro (And.intro @md_25 @md_26) (And.intro @md_27 (And.intro @md_28 @md_29))) (And.intro (And.intro @md_30 (And.intro @md_31 @md_32)) (And.intro @md_33 (And.intro @md_34 @md_35)))) (And.intro (And.intro (And.intro @md_36 @md_37) (And.intro @md_38 (And.intro @md_39 @md_40))) (And.intro (And.intro @md_41 (And.intro @md_42 @md_43)) (And.intro @md_44 (And.intro @md_45 @md_46)))))) (And.intro (And.intro (And.intro (And.intro (And.intro @md_47 @md_48) (And.intro @md_49 (And.intro @md_50 @md_51))) (And.intro (And.intro @md_52 (And.intro @md_53 @md_54)) (And.intro @md_55 (And.intro @md_56 @md_57)))) (And.intro (And.intro (And.intro @md_58 @md_59) (And.intro @md_60 (And.intro @md_61 @md_62))) (And.intro (And.intro @md_63 (And.intro @md_64 @md_65)) (And.intro @md_66 (And.intro @md_67 @md_68))))) (And.intro (And.intro (And.intro (And.intro @md_69 @md_70) (And.intro @md_71 (And.intro @md_72 @md_73))) (And.intro (And.intro @md_74 (And.intro @md_75 @md_76)) (And.intro @md_77 (And.intro @md_78 @md_79)))) (And.intro (And.intro (And.intro @md_80 @md_81) (And.intro @md_82 (And.intro @md_83 @md_84))) (And.intro (And.intro @md_85 (And.intro @md_86 @md_87)) (And.intro @md_88 (And.intro @md_89 @md_90))))))) (And.intro (And.intro (And.intro (And.intro (And.intro (And.intro @tr_3 @tr_4) (And.intro @tr_5 (And.intro @tr_6 @tr_7))) (And.intro (And.intro @tr_8 (And.intro @tr_9 @tr_10)) (And.intro @tr_11 (And.intro @tr_12 @tr_13)))) (And.intro (And.intro (And.intro @tr_14 @tr_15) (And.intro @tr_16 (And.intro @tr_17 @tr_18))) (And.intro (And.intro @tr_19 (And.intro @tr_20 @tr_21)) (And.intro @tr_22 (And.intro @tr_23 @tr_24))))) (And.intro (And.intro (And.intro (And.intro @tr_25 @tr_26) (And.intro @tr_27 (And.intro @tr_28 @tr_29))) (And.intro (And.intro @tr_30 (And.intro @tr_31 @tr_32)) (And.intro @tr_33 (And.intro @tr_34 @tr_35)))) (And.intro (And.intro (And.intro @tr_36 @tr_37) (And.intro @tr_38 (And.intro @tr_39 @tr_40))) (And.intro (And.intro @tr_41 (And.intro @tr_42 @tr_43)) (And.intro @tr_44 (And.intro @tr_45 @tr_46)))))) (And.intro (And.intro (And.intro (And.intro (And.intro @tr_47 @tr_48) (And.intro @tr_49 (And.intro @tr_50 @tr_51))) (And.intro (And.intro @tr_52 (And.intro @tr_53 @tr_54)) (And.intro @tr_55 (And.intro @tr_56 @tr_57)))) (And.intro (And.intro (And.intro @tr_58 @tr_59) (And.intro @tr_60 (And.intro @tr_61 @tr_62))) (And.intro (And.intro @tr_63 (And.intro @tr_64 @tr_65)) (And.intro @tr_66 (And.intro @tr_67 @tr_68))))) (And.intro (And.intro (And.intro (And.intro @tr_69 @tr_70) (And.intro @tr_71 (And.intro @tr_72 @tr_73))) (And.intro (And.intro @tr_74 (And.intro @tr_75 @tr_76)) (And.intro @tr_77 (And.intro @tr_78 @tr_79)))) (And.intro (And.intro (And.intro @tr_80 @tr_81) (And.intro @tr_82 (And.intro @tr_83 @tr_84))) (And.intro (And.intro @tr_85 (And.intro @tr_86 @tr_87)) (And.intro @tr_88 (And.intro @tr_89 @tr_90))))))))
theorem TIS : type_of% (And.intro (And.intro (And.intro (And.intro (And.intro @ti3 @ti4) (And.intro @ti22 @sl22)) (And.intro (And.intro @ti24 @is24) (And.intro @ti26 @sl26))) (And.intro (And.intro (And.intro @ti28 @is28) (And.intro @ti40 @sl40)) (And.intro (And.intro @ti42 @is42) (And.intro @ti44 (And.intro @is44 @ti50))))) (And.intro (And.intro (And.intro (And.intro @sl50 @ti52) (And.intro @is52 @ti54)) (And.intro (And.intro @is54 @ti62) (And.intro @sl62 @ti66))) (And.intro (And.intro (And.intro @sl66 @ti68) (And.intro @is68 @ti70)) (And.intro (And.intro @is70 @ti84) (And.intro @sl84 (And.intro @ti99 @is99)))))) := (And.intro (And.intro (And.intro (And.intro (And.intro @ti3 @ti4) (And.intro @ti22 @sl22)) (And.intro (And.intro @ti24 @is24) (And.intro @ti26 @sl26))) (And.intro (And.intro (And.intro @ti28 @is28) (And.intro @ti40 @sl40)) (And.intro (And.intro @ti42 @is42) (And.intro @ti44 (And.intro @is44 @ti50))))) (And.intro (And.intro (And.intro (And.intro @sl50 @ti52) (And.intro @is52 @ti54)) (And.intro (And.intro @is54 @ti62) (And.intro @sl62 @ti66))) (And.intro (And.intro (And.intro @sl66 @ti68) (And.intro @is68 @ti70)) (And.intro (And.intro @is70 @ti84) (And.intro @sl84 (And.intro @ti99 @is99))))))
end Go.Proofs.Ytkadcnfpjppdbaa.Flat
