/-
The program's functions, and how they are reckoned with: tables.
-/
import Derived.Test.YtofkhbmdhahgpaaFlatM5
import Derived.Test.YtofkhbmdhahgpaaFlatM4
import Derived.Test.YtofkhbmdhahgpaaProg
import Derived.KernelRfl
set_option linter.unusedVariables false
set_option linter.unusedSimpArgs false
namespace Go.Proofs.Ytofkhbmdhahgpaa.Flat
def keepT : Nat → Nat → List Nat
  | 5, 15 => [8, 9, 11, 12]
  | 7, 3 => [0, 3, 4]
  | 10, 4 => [0, 1, 5]
  | 11, 2 => [0, 1, 5]
  | 15, 5 => [1, 3, 4]
  | 17, 5 => [1, 3, 12, 13]
  | 18, 2 => [0, 1, 5]
  | 21, 2 => [1, 6, 7, 8]
  | 22, 4 => [0, 1, 5]
  | 23, 5 => [2, 4, 5, 6, 7]
  | 25, 8 => [1, 3, 4, 5]
  | 25, 2 => [1, 3]
  | 26, 3 => [3, 8, 9, 10]
  | 27, 2 => [0, 1, 5]
  | 29, 3 => [0, 3, 4]
  | 30, 11 => [0, 11, 12]
  | 33, 4 => [0, 1, 5]
  | 34, 2 => [0, 1, 5]
  | 35, 2 => [0, 1, 5]
  | 37, 4 => [1, 2, 5]
  | 38, 3 => [0, 1, 5, 6]
  | 39, 3 => [0, 3, 4]
  | 40, 2 => [1, 2, 5]
  | 41, 3 => [1, 5, 8, 9]
  | 42, 3 => [0, 3, 4]
  | 44, 4 => [0, 1, 5, 6, 7]
  | 46, 4 => [2, 3, 31, 32, 33]
  | 52, 2 => [0, 3, 7, 8]
  | _, _ => []
def planT : Nat → Nat → List (Qt × Nat)
  | 4, 10 => [(.no, 0), (.no, 1), (.quiet, 2), (.no, 3), (.no, 4)]
  | 5, 11 => [(.no, 0), (.no, 1), (.no, 2), (.no, 3), (.no, 5), (.quiet, 4), (.no, 6), (.no, 7), (.no, 8), (.no, 9), (.no, 10), (.no, 11), (.no, 12), (.no, 14), (.no, 15), (.quiet, 13), (.no, 16), (.no, 17), (.no, 18), (.no, 19), (.no, 20), (.no, 21), (.no, 22), (.no, 23), (.no, 24), (.no, 25), (.no, 26), (.no, 27)]
  | 5, 19 => [(.no, 0), (.no, 1), (.no, 2), (.no, 3), (.no, 4), (.no, 5), (.no, 6), (.no, 8), (.no, 9), (.quiet, 7), (.no, 10), (.no, 11), (.no, 12)]
  | 10, 6 => [(.no, 0), (.no, 1), (.no, 2), (.no, 3), (.no, 4), (.no, 5), (.no, 6), (.no, 7), (.no, 8)]
  | 15, 7 => [(.no, 0), (.no, 1), (.no, 2), (.no, 3), (.no, 4), (.quiet, 5), (.quiet, 6), (.soft false [3, 17], 7), (.no, 8), (.no, 9)]
  | 17, 7 => [(.no, 0), (.no, 1), (.no, 2), (.no, 3), (.no, 4), (.quiet, 5), (.quiet, 6), (.soft false [3, 16], 7), (.no, 8), (.no, 9)]
  | 21, 4 => [(.no, 0), (.no, 1), (.no, 2), (.no, 3), (.no, 4), (.no, 5), (.no, 6), (.no, 7), (.no, 8)]
  | 22, 6 => [(.no, 0), (.no, 1), (.no, 2), (.no, 3), (.no, 4), (.no, 5), (.no, 6), (.no, 7), (.no, 8)]
  | 25, 10 => [(.no, 0), (.no, 1), (.no, 2), (.no, 3), (.no, 4), (.no, 5), (.no, 6)]
  | 30, 13 => [(.no, 0), (.no, 1), (.no, 2), (.no, 3), (.no, 4), (.no, 5), (.no, 6), (.no, 7), (.no, 8)]
  | 30, 15 => [(.no, 0), (.no, 1), (.no, 2), (.no, 3), (.no, 4), (.no, 5), (.soft true [0, 65, 66, 67, 68, 69], 6), (.soft false [0, 65], 7), (.no, 8), (.no, 9), (.no, 10)]
  | 32, 10 => [(.no, 0), (.no, 1), (.no, 2), (.no, 3), (.no, 4), (.no, 5), (.no, 6)]
  | 32, 13 => [(.no, 0), (.no, 1), (.no, 2), (.no, 3), (.no, 4), (.no, 5), (.soft true [0, 56, 57, 58, 59, 60], 6), (.soft false [0, 56], 7), (.no, 8), (.no, 9), (.no, 10)]
  | 33, 6 => [(.no, 0), (.no, 1), (.no, 2), (.no, 3), (.no, 4), (.no, 5), (.no, 6), (.no, 7), (.no, 8), (.no, 9)]
  | 46, 6 => [(.no, 0), (.no, 1), (.no, 2), (.no, 3), (.no, 4), (.no, 5), (.no, 6), (.no, 7), (.no, 8), (.no, 9), (.no, 10), (.no, 11), (.no, 12), (.no, 13), (.no, 14), (.no, 15), (.no, 16), (.no, 17), (.no, 18), (.no, 19)]
  | 49, 3 => [(.no, 0), (.no, 1), (.no, 2), (.no, 3), (.no, 4), (.no, 5), (.no, 6), (.no, 7), (.no, 8), (.no, 9), (.no, 10), (.no, 11), (.no, 12), (.no, 13), (.no, 14), (.no, 15), (.no, 16), (.no, 17), (.no, 18), (.no, 19)]
  | 52, 4 => [(.no, 0), (.no, 1), (.no, 2), (.no, 3), (.no, 4), (.no, 5)]
  | 55, 2 => [(.no, 0), (.no, 1), (.no, 2), (.no, 3), (.no, 4), (.no, 5), (.no, 6), (.no, 7), (.no, 8), (.no, 9), (.no, 10), (.no, 11), (.no, 12)]
  | 55, 3 => [(.no, 0), (.no, 1), (.no, 2), (.no, 3), (.no, 4), (.no, 5), (.no, 6), (.no, 7), (.no, 8), (.no, 9)]
  | 55, 4 => [(.no, 0), (.no, 1), (.no, 2), (.no, 3), (.no, 4), (.no, 5), (.no, 6), (.no, 7), (.no, 8), (.no, 9), (.no, 10), (.no, 11), (.no, 12), (.no, 13), (.no, 14)]
  | _, _ => []
def okT : List Nat := [3, 4, 6, 7, 8, 9, 10, 11, 12, 13, 14, 15, 16, 17, 18, 19, 20, 21, 22, 23, 24, 25, 26, 27, 28, 29, 30, 31, 32, 33, 34, 35, 36, 37, 38, 39, 40, 41, 42, 43, 44, 45, 46, 48, 49, 52, 53, 54, 55, 56, 57]
def treeT : List Nat := []
def mdT : Nat → List Mode
  | 11 => [.«mut», .ro]
  | 12 => [.«mut», .ro]
  | 30 => [.io, .ro, .ro, .ro]
  | 32 => [.io, .ro, .ro, .ro]
  | 34 => [.«mut», .ro]
  | 42 => [.give]
  | 43 => [.io, .ro]
  | 44 => [.io, .ro]
  | 45 => [.io, .ro]
  | 47 => [.io]
  | 48 => [.io, .ro]
  | 50 => [.«mut»]
  | 51 => [.give]
  | 55 => [.io]
  | 57 => [.io]
  | _ => []
noncomputable def E : Env := { P := Go.Proofs.Try.prog, md := mdT, keep := keepT, plan := planT, ok := fun f => okT.contains f, tree := fun f => treeT.contains f }
theorem mixed : E.P.follows .mixedOrders = true := by kernel_rfl
/-- One function's check. -/
def good1 (P : Program) (plan : Nat → Nat → List (Qt × Nat)) (md : Nat → List Mode) (f : Nat) : Bool :=
  match P.funcs[f]? with
  | some fn => (match fn.body with | some c => codeOK (plan f) c && codePin (mutSlots 0 (md f)) c | none => true) && !(fn.name == "runtime.NumGoroutine")
  | none => true
theorem good1_ok {E : Env} {l : List Nat} (ho : ∀ f, E.ok f = true → f ∈ l) (h : l.all (good1 E.P E.plan E.md) = true) : Sound E := by
  intro f hf fn c hfn hc
  have h1 := List.all_eq_true.1 h f (ho f hf)
  simp -implicitDefEqProofs only [good1, hfn, hc, Bool.and_eq_true, Bool.not_eq_true', beq_eq_false_iff_ne, ne_eq] at h1
  exact ⟨h1.1.1, h1.2, h1.1.2⟩
theorem sound : Sound E := good1_ok (l := okT) (fun f hf => by simpa [E] using hf) (by kernel_rfl)
/-- Functions of the library that are not entered. -/
def extT : Nat → Option (List AV → List (List AV) → Option (AV × List (List AV)))
  | 50 => some sortExt
  | 51 => some compactExt
  | _ => none
abbrev noExt : Nat → Option (List AV → List (List AV) → Option (AV × List (List AV))) := extT
theorem ext_50 : noExt 50 = some sortExt := rfl
theorem ext_51 : noExt 51 = some compactExt := rfl
abbrev nSort : Nat := 50
abbrev nCompact : Nat := 51
abbrev tBool : Nat := 4
theorem tagBool : tagOf E.P 4 = .bool := by kernel_rfl
theorem one_ne : (1 = 0) = False := by simp
theorem ti3 : tiOf E.P 3 = some { tag := Tag.int IntKind.i64, agg := false, size := 1, bytes := 8, zero := some (Value.int IntKind.i64 0), elem := 0, fields := [], eqs := none } := by kernel_rfl
theorem ti4 : tiOf E.P 4 = some { tag := Tag.bool, agg := false, size := 1, bytes := 1, zero := some (Value.bool false), elem := 0, fields := [], eqs := none } := by kernel_rfl
theorem ti5 : tiOf E.P 5 = some { tag := Tag.int IntKind.u8, agg := false, size := 1, bytes := 1, zero := some (Value.int IntKind.u8 0), elem := 0, fields := [], eqs := none } := by kernel_rfl
theorem ti22 : tiOf E.P 22 = some { tag := Tag.slice, agg := false, size := 1, bytes := 24, zero := some (Value.slice none 0 0), elem := 4, fields := [], eqs := none } := by kernel_rfl
theorem sl22 : isSliceT E.P 22 = true := by kernel_rfl
theorem ti23 : tiOf E.P 23 = some { tag := Tag.slice, agg := false, size := 1, bytes := 24, zero := some (Value.slice none 0 0), elem := 68, fields := [], eqs := none } := by kernel_rfl
theorem sl23 : isSliceT E.P 23 = true := by kernel_rfl
theorem ti25 : tiOf E.P 25 = some { tag := Tag.struct, agg := true, size := 3, bytes := 40, zero := some (Value.agg #[Value.int IntKind.i64 0, Value.slice none 0 0, Value.int IntKind.i64 0]), elem := 0, fields := [(0, 1, false), (1, 1, false), (2, 1, false)], eqs := none } := by kernel_rfl
theorem is25 : isStructT E.P 25 = true := by kernel_rfl
theorem ti34 : tiOf E.P 34 = some { tag := Tag.slice, agg := false, size := 1, bytes := 24, zero := some (Value.slice none 0 0), elem := 78, fields := [], eqs := none } := by kernel_rfl
theorem sl34 : isSliceT E.P 34 = true := by kernel_rfl
theorem ti36 : tiOf E.P 36 = some { tag := Tag.struct, agg := true, size := 3, bytes := 40, zero := some (Value.agg #[Value.int IntKind.i64 0, Value.slice none 0 0, Value.int IntKind.i64 0]), elem := 0, fields := [(0, 1, false), (1, 1, false), (2, 1, false)], eqs := none } := by kernel_rfl
theorem is36 : isStructT E.P 36 = true := by kernel_rfl
theorem ti41 : tiOf E.P 41 = some { tag := Tag.slice, agg := false, size := 1, bytes := 24, zero := some (Value.slice none 0 0), elem := 5, fields := [], eqs := none } := by kernel_rfl
theorem sl41 : isSliceT E.P 41 = true := by kernel_rfl
theorem ti49 : tiOf E.P 49 = some { tag := Tag.slice, agg := false, size := 1, bytes := 24, zero := some (Value.slice none 0 0), elem := 3, fields := [], eqs := none } := by kernel_rfl
theorem sl49 : isSliceT E.P 49 = true := by kernel_rfl
theorem ti68 : tiOf E.P 68 = some { tag := Tag.struct, agg := true, size := 3, bytes := 24, zero := some (Value.agg #[Value.int IntKind.i64 0, Value.int IntKind.i64 0, Value.int IntKind.i64 0]), elem := 0, fields := [(0, 1, false), (1, 1, false), (2, 1, false)], eqs := some [0, 0, 0] } := by kernel_rfl
theorem is68 : isStructT E.P 68 = true := by kernel_rfl
theorem ti78 : tiOf E.P 78 = some { tag := Tag.struct, agg := true, size := 3, bytes := 24, zero := some (Value.agg #[Value.int IntKind.i64 0, Value.int IntKind.i64 0, Value.int IntKind.i64 0]), elem := 0, fields := [(0, 1, false), (1, 1, false), (2, 1, false)], eqs := some [0, 0, 0] } := by kernel_rfl
theorem is78 : isStructT E.P 78 = true := by kernel_rfl
theorem ti80 : tiOf E.P 80 = some { tag := Tag.struct, agg := true, size := 3, bytes := 40, zero := some (Value.agg #[Value.slice none 0 0, Value.int IntKind.i64 0, Value.int IntKind.i64 0]), elem := 0, fields := [(0, 1, false), (1, 1, false), (2, 1, false)], eqs := none } := by kernel_rfl
theorem is80 : isStructT E.P 80 = true := by kernel_rfl
theorem plan_4_10 : E.plan 4 10 = [(.no, 0), (.no, 1), (.quiet, 2), (.no, 3), (.no, 4)] := rfl
theorem plan_5_11 : E.plan 5 11 = [(.no, 0), (.no, 1), (.no, 2), (.no, 3), (.no, 5), (.quiet, 4), (.no, 6), (.no, 7), (.no, 8), (.no, 9), (.no, 10), (.no, 11), (.no, 12), (.no, 14), (.no, 15), (.quiet, 13), (.no, 16), (.no, 17), (.no, 18), (.no, 19), (.no, 20), (.no, 21), (.no, 22), (.no, 23), (.no, 24), (.no, 25), (.no, 26), (.no, 27)] := rfl
theorem plan_5_19 : E.plan 5 19 = [(.no, 0), (.no, 1), (.no, 2), (.no, 3), (.no, 4), (.no, 5), (.no, 6), (.no, 8), (.no, 9), (.quiet, 7), (.no, 10), (.no, 11), (.no, 12)] := rfl
theorem plan_10_6 : E.plan 10 6 = [(.no, 0), (.no, 1), (.no, 2), (.no, 3), (.no, 4), (.no, 5), (.no, 6), (.no, 7), (.no, 8)] := rfl
theorem plan_15_7 : E.plan 15 7 = [(.no, 0), (.no, 1), (.no, 2), (.no, 3), (.no, 4), (.quiet, 5), (.quiet, 6), (.soft false [3, 17], 7), (.no, 8), (.no, 9)] := rfl
theorem plan_17_7 : E.plan 17 7 = [(.no, 0), (.no, 1), (.no, 2), (.no, 3), (.no, 4), (.quiet, 5), (.quiet, 6), (.soft false [3, 16], 7), (.no, 8), (.no, 9)] := rfl
theorem plan_21_4 : E.plan 21 4 = [(.no, 0), (.no, 1), (.no, 2), (.no, 3), (.no, 4), (.no, 5), (.no, 6), (.no, 7), (.no, 8)] := rfl
theorem plan_22_6 : E.plan 22 6 = [(.no, 0), (.no, 1), (.no, 2), (.no, 3), (.no, 4), (.no, 5), (.no, 6), (.no, 7), (.no, 8)] := rfl
theorem plan_25_10 : E.plan 25 10 = [(.no, 0), (.no, 1), (.no, 2), (.no, 3), (.no, 4), (.no, 5), (.no, 6)] := rfl
theorem plan_30_13 : E.plan 30 13 = [(.no, 0), (.no, 1), (.no, 2), (.no, 3), (.no, 4), (.no, 5), (.no, 6), (.no, 7), (.no, 8)] := rfl
theorem plan_30_15 : E.plan 30 15 = [(.no, 0), (.no, 1), (.no, 2), (.no, 3), (.no, 4), (.no, 5), (.soft true [0, 65, 66, 67, 68, 69], 6), (.soft false [0, 65], 7), (.no, 8), (.no, 9), (.no, 10)] := rfl
theorem plan_32_10 : E.plan 32 10 = [(.no, 0), (.no, 1), (.no, 2), (.no, 3), (.no, 4), (.no, 5), (.no, 6)] := rfl
theorem plan_32_13 : E.plan 32 13 = [(.no, 0), (.no, 1), (.no, 2), (.no, 3), (.no, 4), (.no, 5), (.soft true [0, 56, 57, 58, 59, 60], 6), (.soft false [0, 56], 7), (.no, 8), (.no, 9), (.no, 10)] := rfl
theorem plan_33_6 : E.plan 33 6 = [(.no, 0), (.no, 1), (.no, 2), (.no, 3), (.no, 4), (.no, 5), (.no, 6), (.no, 7), (.no, 8), (.no, 9)] := rfl
theorem plan_46_6 : E.plan 46 6 = [(.no, 0), (.no, 1), (.no, 2), (.no, 3), (.no, 4), (.no, 5), (.no, 6), (.no, 7), (.no, 8), (.no, 9), (.no, 10), (.no, 11), (.no, 12), (.no, 13), (.no, 14), (.no, 15), (.no, 16), (.no, 17), (.no, 18), (.no, 19)] := rfl
theorem plan_49_3 : E.plan 49 3 = [(.no, 0), (.no, 1), (.no, 2), (.no, 3), (.no, 4), (.no, 5), (.no, 6), (.no, 7), (.no, 8), (.no, 9), (.no, 10), (.no, 11), (.no, 12), (.no, 13), (.no, 14), (.no, 15), (.no, 16), (.no, 17), (.no, 18), (.no, 19)] := rfl
theorem plan_52_4 : E.plan 52 4 = [(.no, 0), (.no, 1), (.no, 2), (.no, 3), (.no, 4), (.no, 5)] := rfl
theorem plan_55_2 : E.plan 55 2 = [(.no, 0), (.no, 1), (.no, 2), (.no, 3), (.no, 4), (.no, 5), (.no, 6), (.no, 7), (.no, 8), (.no, 9), (.no, 10), (.no, 11), (.no, 12)] := rfl
theorem plan_55_3 : E.plan 55 3 = [(.no, 0), (.no, 1), (.no, 2), (.no, 3), (.no, 4), (.no, 5), (.no, 6), (.no, 7), (.no, 8), (.no, 9)] := rfl
theorem plan_55_4 : E.plan 55 4 = [(.no, 0), (.no, 1), (.no, 2), (.no, 3), (.no, 4), (.no, 5), (.no, 6), (.no, 7), (.no, 8), (.no, 9), (.no, 10), (.no, 11), (.no, 12), (.no, 13), (.no, 14)] := rfl
theorem keep_5_15 : E.keep 5 15 = [8, 9, 11, 12] := rfl
theorem keep_7_3 : E.keep 7 3 = [0, 3, 4] := rfl
theorem keep_10_4 : E.keep 10 4 = [0, 1, 5] := rfl
theorem keep_11_2 : E.keep 11 2 = [0, 1, 5] := rfl
theorem keep_15_5 : E.keep 15 5 = [1, 3, 4] := rfl
theorem keep_17_5 : E.keep 17 5 = [1, 3, 12, 13] := rfl
theorem keep_18_2 : E.keep 18 2 = [0, 1, 5] := rfl
theorem keep_21_2 : E.keep 21 2 = [1, 6, 7, 8] := rfl
theorem keep_22_4 : E.keep 22 4 = [0, 1, 5] := rfl
theorem keep_23_5 : E.keep 23 5 = [2, 4, 5, 6, 7] := rfl
theorem keep_25_8 : E.keep 25 8 = [1, 3, 4, 5] := rfl
theorem keep_25_2 : E.keep 25 2 = [1, 3] := rfl
theorem keep_26_3 : E.keep 26 3 = [3, 8, 9, 10] := rfl
theorem keep_27_2 : E.keep 27 2 = [0, 1, 5] := rfl
theorem keep_29_3 : E.keep 29 3 = [0, 3, 4] := rfl
theorem keep_30_11 : E.keep 30 11 = [0, 11, 12] := rfl
theorem keep_33_4 : E.keep 33 4 = [0, 1, 5] := rfl
theorem keep_34_2 : E.keep 34 2 = [0, 1, 5] := rfl
theorem keep_35_2 : E.keep 35 2 = [0, 1, 5] := rfl
theorem keep_37_4 : E.keep 37 4 = [1, 2, 5] := rfl
theorem keep_38_3 : E.keep 38 3 = [0, 1, 5, 6] := rfl
theorem keep_39_3 : E.keep 39 3 = [0, 3, 4] := rfl
theorem keep_40_2 : E.keep 40 2 = [1, 2, 5] := rfl
theorem keep_41_3 : E.keep 41 3 = [1, 5, 8, 9] := rfl
theorem keep_42_3 : E.keep 42 3 = [0, 3, 4] := rfl
theorem keep_44_4 : E.keep 44 4 = [0, 1, 5, 6, 7] := rfl
theorem keep_46_4 : E.keep 46 4 = [2, 3, 31, 32, 33] := rfl
theorem keep_52_2 : E.keep 52 2 = [0, 3, 7, 8] := rfl
theorem md_3 : E.md 3 = [] := rfl
theorem md_4 : E.md 4 = [] := rfl
theorem md_5 : E.md 5 = [] := rfl
theorem md_6 : E.md 6 = [] := rfl
theorem md_7 : E.md 7 = [] := rfl
theorem md_8 : E.md 8 = [] := rfl
theorem md_9 : E.md 9 = [] := rfl
theorem md_10 : E.md 10 = [] := rfl
theorem md_11 : E.md 11 = [.«mut», .ro] := rfl
theorem md_12 : E.md 12 = [.«mut», .ro] := rfl
theorem md_13 : E.md 13 = [] := rfl
theorem md_14 : E.md 14 = [] := rfl
theorem md_15 : E.md 15 = [] := rfl
theorem md_16 : E.md 16 = [] := rfl
theorem md_17 : E.md 17 = [] := rfl
theorem md_18 : E.md 18 = [] := rfl
theorem md_19 : E.md 19 = [] := rfl
theorem md_20 : E.md 20 = [] := rfl
theorem md_21 : E.md 21 = [] := rfl
theorem md_22 : E.md 22 = [] := rfl
theorem md_23 : E.md 23 = [] := rfl
theorem md_24 : E.md 24 = [] := rfl
theorem md_25 : E.md 25 = [] := rfl
theorem md_26 : E.md 26 = [] := rfl
theorem md_27 : E.md 27 = [] := rfl
theorem md_28 : E.md 28 = [] := rfl
theorem md_29 : E.md 29 = [] := rfl
theorem md_30 : E.md 30 = [.io, .ro, .ro, .ro] := rfl
theorem md_31 : E.md 31 = [] := rfl
theorem md_32 : E.md 32 = [.io, .ro, .ro, .ro] := rfl
theorem md_33 : E.md 33 = [] := rfl
theorem md_34 : E.md 34 = [.«mut», .ro] := rfl
theorem md_35 : E.md 35 = [] := rfl
theorem md_36 : E.md 36 = [] := rfl
theorem md_37 : E.md 37 = [] := rfl
theorem md_38 : E.md 38 = [] := rfl
theorem md_39 : E.md 39 = [] := rfl
theorem md_40 : E.md 40 = [] := rfl
theorem md_41 : E.md 41 = [] := rfl
theorem md_42 : E.md 42 = [.give] := rfl
theorem md_43 : E.md 43 = [.io, .ro] := rfl
theorem md_44 : E.md 44 = [.io, .ro] := rfl
theorem md_45 : E.md 45 = [.io, .ro] := rfl
theorem md_46 : E.md 46 = [] := rfl
theorem md_47 : E.md 47 = [.io] := rfl
theorem md_48 : E.md 48 = [.io, .ro] := rfl
theorem md_49 : E.md 49 = [] := rfl
theorem md_50 : E.md 50 = [.«mut»] := rfl
theorem md_51 : E.md 51 = [.give] := rfl
theorem md_52 : E.md 52 = [] := rfl
theorem md_53 : E.md 53 = [] := rfl
theorem md_54 : E.md 54 = [] := rfl
theorem md_55 : E.md 55 = [.io] := rfl
theorem md_56 : E.md 56 = [] := rfl
theorem md_57 : E.md 57 = [.io] := rfl
theorem tr_3 : E.tree 3 = false := rfl
theorem tr_4 : E.tree 4 = false := rfl
theorem tr_5 : E.tree 5 = false := rfl
theorem tr_6 : E.tree 6 = false := rfl
theorem tr_7 : E.tree 7 = false := rfl
theorem tr_8 : E.tree 8 = false := rfl
theorem tr_9 : E.tree 9 = false := rfl
theorem tr_10 : E.tree 10 = false := rfl
theorem tr_11 : E.tree 11 = false := rfl
theorem tr_12 : E.tree 12 = false := rfl
theorem tr_13 : E.tree 13 = false := rfl
theorem tr_14 : E.tree 14 = false := rfl
theorem tr_15 : E.tree 15 = false := rfl
theorem tr_16 : E.tree 16 = false := rfl
theorem tr_17 : E.tree 17 = false := rfl
theorem tr_18 : E.tree 18 = false := rfl
theorem tr_19 : E.tree 19 = false := rfl
theorem tr_20 : E.tree 20 = false := rfl
theorem tr_21 : E.tree 21 = false := rfl
theorem tr_22 : E.tree 22 = false := rfl
theorem tr_23 : E.tree 23 = false := rfl
theorem tr_24 : E.tree 24 = false := rfl
theorem tr_25 : E.tree 25 = false := rfl
theorem tr_26 : E.tree 26 = false := rfl
theorem tr_27 : E.tree 27 = false := rfl
theorem tr_28 : E.tree 28 = false := rfl
theorem tr_29 : E.tree 29 = false := rfl
theorem tr_30 : E.tree 30 = false := rfl
theorem tr_31 : E.tree 31 = false := rfl
theorem tr_32 : E.tree 32 = false := rfl
theorem tr_33 : E.tree 33 = false := rfl
theorem tr_34 : E.tree 34 = false := rfl
theorem tr_35 : E.tree 35 = false := rfl
theorem tr_36 : E.tree 36 = false := rfl
theorem tr_37 : E.tree 37 = false := rfl
theorem tr_38 : E.tree 38 = false := rfl
theorem tr_39 : E.tree 39 = false := rfl
theorem tr_40 : E.tree 40 = false := rfl
theorem tr_41 : E.tree 41 = false := rfl
theorem tr_42 : E.tree 42 = false := rfl
theorem tr_43 : E.tree 43 = false := rfl
theorem tr_44 : E.tree 44 = false := rfl
theorem tr_45 : E.tree 45 = false := rfl
theorem tr_46 : E.tree 46 = false := rfl
theorem tr_47 : E.tree 47 = false := rfl
theorem tr_48 : E.tree 48 = false := rfl
theorem tr_49 : E.tree 49 = false := rfl
theorem tr_52 : E.tree 52 = false := rfl
theorem tr_53 : E.tree 53 = false := rfl
theorem tr_54 : E.tree 54 = false := rfl
theorem tr_55 : E.tree 55 = false := rfl
theorem tr_56 : E.tree 56 = false := rfl
theorem tr_57 : E.tree 57 = false := rfl
theorem MDS : type_of% (And.intro (And.intro (And.intro (And.intro (And.intro (And.intro @md_3 (And.intro @md_4 @md_5)) (And.intro @md_6 (And.intro @md_7 @md_8))) (And.intro (And.intro @md_9 (And.intro @md_10 @md_11)) (And.intro (And.intro @md_12 @md_13) (And.intro @md_14 @md_15)))) (And.intro (And.intro (And.intro @md_16 (And.intro @md_17 @md_18)) (And.intro (And.intro @md_19 @md_20) (And.intro @md_21 @md_22))) (And.intro (And.intro @md_23 (And.intro @md_24 @md_25)) (And.intro (And.intro @md_26 @md_27) (And.intro @md_28 @md_29))))) (And.intro (And.intro (And.intro (And.intro @md_30 (And.intro @md_31 @md_32)) (And.intro @md_33 (And.intro @md_34 @md_35))) (And.intro (And.intro @md_36 (And.intro @md_37 @md_38)) (And.intro (And.intro @md_39 @md_40) (And.intro @md_41 @md_42)))) (And.intro (And.intro (And.intro @md_43 (And.intro @md_44 @md_45)) (And.intro (And.intro @md_46 @md_47) (And.intro @md_48 @md_49))) (And.intro (And.intro @md_50 (And.intro @md_51 @md_52)) (And.intro (And.intro @md_53 @md_54) (And.intro @md_55 @md_56)))))) (And.intro (And.intro (And.intro (And.intro (And.intro @md_57 (And.intro @tr_3 @tr_4)) (And.intro @tr_5 (And.intro @tr_6 @tr_7))) (And.intro (And.intro @tr_8 (And.intro @tr_9 @tr_10)) (And.intro (And.intro @tr_11 @tr_12) (And.intro @tr_13 @tr_14)))) (And.intro (And.intro (And.intro @tr_15 (And.intro @tr_16 @tr_17)) (And.intro (And.intro @tr_18 @tr_19) (And.intro @tr_20 @tr_21))) (And.intro (And.intro @tr_22 (And.intro @tr_23 @tr_24)) (And.intro (And.intro @tr_25 @tr_26) (And.intro @tr_27 @tr_28))))) (And.intro (And.intro (And.intro (And.intro @tr_29 (And.intro @tr_30 @tr_31)) (And.intro @tr_32 (And.intro @tr_33 @tr_34))) (And.intro (And.intro @tr_35 (And.intro @tr_36 @tr_37)) (And.intro (And.intro @tr_38 @tr_39) (And.intro @tr_40 @tr_41)))) (And.intro (And.intro (And.intro @tr_42 (And.intro @tr_43 @tr_44)) (And.intro (And.intro @tr_45 @tr_46) (And.intro @tr_47 @tr_48))) (And.intro (And.intro @tr_49 (And.intro @tr_52 @tr_53)) (And.intro (And.intro @tr_54 @tr_55) (And.intro @tr_56 @tr_57))))))) := (And.intro (And.intro (And.intro (And.intro (And.intro (And.intro @md_3 (And.intro @md_4 @md_5)) (And.intro @md_6 (And.intro @md_7 @md_8))) (And.intro (And.intro @md_9 (And.intro @md_10 @md_11)) (And.intro (And.intro @md_12 @md_13) (And.intro @md_14 @md_15)))) (And.intro (And.intro (And.intro @md_16 (And.intro @md_17 @md_18)) (And.intro (And.intro @md_19 @md_20) (And.intro @md_21 @md_22))) (And.intro (And.intro @md_23 (And.intro @md_24 @md_25)) (And.intro (And.intro @md_26 @md_27) (And.intro @md_28 @md_29))))) (And.intro (And.intro (And.intro (And.intro @md_30 (And.intro @md_31 @md_32)) (And.intro @md_33 (And.intro @md_34 @md_35))) (And.intro (And.intro @md_36 (And.intro @md_37 @md_38)) (And.intro (And.intro @md_39 @md_40) (And.intro @md_41 @md_42)))) (And.intro (And.intro (And.intro @md_43 (And.intro @md_44 @md_45)) (And.intro (And.intro @md_46 @md_47) (And.intro @md_48 @md_49))) (And.intro (And.intro @md_50 (And.intro @md_51 @md_52)) (And.intro (And.intro @md_53 @md_54) (And.intro @md_55 @md_56)))))) (And.intro (And.intro (And.intro (And.intro (And.intro @md_57 (And.intro @tr_3 @tr_4)) (And.intro @tr_5 (And.intro @tr_6 @tr_7))) (And.intro (And.intro @tr_8 (And.intro @tr_9 @tr_10)) (And.intro (And.intro @tr_11 @tr_12) (And.intro @tr_13 @tr_14)))) (And.intro (And.intro (And.intro @tr_15 (And.intro @tr_16 @tr_17)) (And.intro (And.intro @tr_18 @tr_19) (And.intro @tr_20 @tr_21))) (And.intro (And.intro @tr_22 (And.intro @tr_23 @tr_24)) (And.intro (And.intro @tr_25 @tr_26) (And.intro @tr_27 @tr_28))))) (And.intro (And.intro (And.intro (And.intro @tr_29 (And.intro @tr_30 @tr_31)) (And.intro @tr_32 (And.intro @tr_33 @tr_34))) (And.intro (And.intro @tr_35 (And.intro @tr_36 @tr_37)) (And.intro (And.intro @tr_38 @tr_39) (And.intro @tr_40 @tr_41)))) (And.intro (And.intro (And.intro @tr_42 (And.intro @tr_43 @tr_44)) (And.intro (And.intro @tr_45 @tr_46) (And.intro @tr_47 @tr_48))) (And.intro (And.intro @tr_49 (And.intro @tr_52 @tr_53)) (And.intro (And.intro @tr_54 @tr_55) (And.intro @tr_56 @tr_57)))))))
theorem TIS : type_of% (And.intro (And.intro (And.intro (And.intro @ti3 @ti4) (And.intro @ti5 (And.intro @ti22 @sl22))) (And.intro (And.intro @ti23 (And.intro @sl23 @ti25)) (And.intro @is25 (And.intro @ti34 @sl34)))) (And.intro (And.intro (And.intro @ti36 (And.intro @is36 @ti41)) (And.intro @sl41 (And.intro @ti49 @sl49))) (And.intro (And.intro @ti68 (And.intro @is68 @ti78)) (And.intro @is78 (And.intro @ti80 @is80))))) := (And.intro (And.intro (And.intro (And.intro @ti3 @ti4) (And.intro @ti5 (And.intro @ti22 @sl22))) (And.intro (And.intro @ti23 (And.intro @sl23 @ti25)) (And.intro @is25 (And.intro @ti34 @sl34)))) (And.intro (And.intro (And.intro @ti36 (And.intro @is36 @ti41)) (And.intro @sl41 (And.intro @ti49 @sl49))) (And.intro (And.intro @ti68 (And.intro @is68 @ti78)) (And.intro @is78 (And.intro @ti80 @is80)))))
end Go.Proofs.Ytofkhbmdhahgpaa.Flat
