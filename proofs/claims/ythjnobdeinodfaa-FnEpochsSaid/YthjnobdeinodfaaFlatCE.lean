/-
The program's functions, and how they are reckoned with: tables.
-/
import Derived.Test.YthjnobdeinodfaaFlatM5
import Derived.Test.YthjnobdeinodfaaProg
import Derived.KernelRfl
set_option linter.unusedVariables false
set_option linter.unusedSimpArgs false
namespace Go.Proofs.Ythjnobdeinodfaa.Flat
def keepT : Nat → Nat → List Nat
  | 5, 4 => [0, 6, 7]
  | 7, 2 => [0, 5, 6, 7]
  | 9, 3 => [1, 5, 8, 9, 10]
  | 13, 3 => [0, 3, 4]
  | 14, 4 => [0, 3, 4, 5]
  | 17, 7 => [4, 5]
  | 18, 8 => [0, 2, 3]
  | 20, 3 => [3, 7, 8, 9]
  | 23, 2 => [0, 1, 7, 8]
  | 26, 3 => [0, 3, 4]
  | 27, 3 => [0, 2, 3, 4]
  | 28, 2 => [0, 3]
  | 29, 3 => [0, 3, 4]
  | 38, 2 => [0, 5, 6, 7]
  | 42, 3 => [1, 2, 3, 4]
  | 46, 3 => [3, 7, 8, 9]
  | 48, 7 => [0, 4, 5, 6, 7, 21, 22, 23]
  | 48, 3 => [0, 4, 5, 6]
  | 54, 2 => [0, 3]
  | 55, 2 => [1, 3]
  | 56, 3 => [1, 2, 3, 4]
  | 60, 3 => [2, 3, 14, 15, 16]
  | 61, 2 => [0, 1, 7, 8]
  | 64, 2 => [0, 1, 5]
  | 65, 15 => [5, 6, 9]
  | 65, 10 => [0, 5, 6, 7, 8]
  | 65, 7 => [0, 5, 6, 7]
  | 69, 3 => [3, 7, 8, 9]
  | 77, 3 => [1, 2, 5]
  | 78, 4 => [1, 3]
  | 80, 2 => [0, 1, 7, 8]
  | _, _ => []
def planT : Nat → Nat → List (Qt × Nat)
  | 7, 4 => [(.no, 0), (.no, 1), (.no, 2), (.no, 3), (.no, 4), (.no, 5), (.no, 6), (.no, 7), (.no, 8), (.no, 9), (.no, 10), (.no, 11), (.no, 12), (.no, 13), (.no, 14), (.no, 15), (.no, 16), (.no, 17), (.no, 18), (.no, 19), (.no, 20), (.no, 21), (.no, 22), (.no, 23), (.no, 24), (.no, 25), (.no, 26), (.no, 27), (.no, 28)]
  | 16, 4 => [(.no, 0), (.no, 2), (.quiet, 1), (.no, 3), (.no, 4), (.no, 5), (.no, 6)]
  | 18, 6 => [(.no, 0), (.no, 1), (.no, 2), (.no, 5), (.quiet, 6), (.no, 8), (.no, 10), (.soft [16] [0, 3, 16, 17, 21, 22, 24, 26], 3), (.no, 4), (.soft [16] [0, 3, 16, 17, 19, 20, 24, 26], 7), (.soft [16] [0, 3, 16, 17, 19, 20, 26], 9), (.soft [16] [3, 16, 17, 19, 20], 11), (.no, 12), (.soft [16] [3, 16, 17], 13), (.no, 14), (.no, 15), (.no, 16)]
  | 18, 9 => [(.no, 0), (.no, 1), (.no, 2), (.soft [38] [3, 38, 39], 3), (.soft [38] [3, 38, 39], 4), (.no, 5), (.no, 6), (.no, 7)]
  | 21, 1 => [(.no, 0), (.no, 1), (.no, 2), (.no, 3), (.no, 5), (.no, 6), (.no, 8), (.no, 9), (.soft [3, 5, 8, 11] [1, 3, 4, 5, 6, 8, 9, 11, 12], 4), (.soft [3, 5, 11] [1, 3, 4, 5, 6, 11, 12], 7), (.quiet, 10), (.no, 11), (.no, 12)]
  | 27, 5 => [(.no, 0), (.no, 1), (.no, 2), (.soft [15] [3, 15, 16], 3), (.soft [15] [3, 15, 16], 4), (.no, 5), (.no, 6), (.no, 7)]
  | 28, 4 => [(.no, 0), (.no, 1), (.no, 2), (.no, 3), (.no, 4), (.no, 5), (.no, 6), (.no, 7), (.no, 8), (.no, 9), (.no, 10), (.no, 11), (.no, 12), (.no, 13), (.no, 14), (.no, 15), (.no, 16), (.no, 17), (.no, 18), (.no, 19), (.no, 20), (.no, 21), (.no, 22), (.no, 23), (.no, 24), (.no, 25), (.no, 26), (.no, 27), (.no, 28), (.no, 29), (.no, 30), (.no, 31), (.no, 32), (.no, 33), (.no, 34), (.no, 35), (.no, 36), (.no, 37)]
  | 30, 1 => [(.no, 0), (.no, 1), (.no, 2), (.no, 3), (.no, 5), (.no, 6), (.no, 8), (.no, 9), (.soft [3, 5, 8, 11] [1, 3, 4, 5, 6, 8, 9, 11, 12], 4), (.soft [3, 5, 11] [1, 3, 4, 5, 6, 11, 12], 7), (.quiet, 10), (.no, 11), (.no, 12)]
  | 33, 10 => [(.no, 0), (.no, 1), (.no, 2), (.soft [27] [3, 27, 28], 3), (.soft [27] [3, 27, 28], 4), (.no, 5), (.no, 6), (.no, 7)]
  | 35, 1 => [(.no, 0), (.no, 1), (.no, 2), (.no, 3), (.quiet, 4), (.no, 5), (.no, 6)]
  | 38, 4 => [(.no, 0), (.no, 1), (.no, 2), (.no, 3), (.no, 4), (.no, 5), (.no, 6), (.no, 7), (.no, 8), (.no, 9), (.no, 10), (.no, 11), (.no, 12), (.no, 13), (.no, 15), (.no, 16), (.quiet, 14), (.no, 17), (.no, 18)]
  | 40, 2 => [(.no, 0), (.no, 1), (.no, 2), (.no, 3), (.no, 4), (.no, 5), (.no, 6), (.no, 7), (.no, 8), (.no, 9), (.no, 10), (.no, 11), (.no, 12)]
  | 40, 3 => [(.no, 0), (.no, 1), (.no, 2), (.no, 3), (.no, 4), (.no, 5), (.no, 6), (.no, 7), (.no, 8), (.no, 9)]
  | 40, 4 => [(.no, 0), (.no, 1), (.no, 2), (.no, 3), (.no, 4), (.no, 5), (.no, 6), (.no, 7), (.no, 8), (.no, 9), (.no, 10), (.no, 11), (.no, 12), (.no, 13), (.no, 14)]
  | 44, 9 => [(.no, 0), (.no, 1), (.no, 2), (.no, 3), (.soft [5] [5, 31], 4), (.no, 5), (.no, 6)]
  | 44, 11 => [(.no, 0), (.no, 1), (.no, 2), (.no, 3), (.soft [6] [6, 41], 4), (.no, 5), (.no, 6)]
  | 54, 4 => [(.no, 0), (.no, 1), (.no, 2), (.no, 3), (.no, 4), (.no, 5), (.no, 6), (.no, 7), (.no, 8), (.no, 9), (.no, 10), (.no, 11), (.no, 12), (.no, 13), (.no, 14), (.no, 15), (.no, 16), (.no, 17), (.no, 18), (.no, 19), (.no, 20), (.no, 21), (.no, 22), (.no, 24), (.no, 25), (.no, 26), (.no, 27), (.no, 28), (.quiet, 23), (.no, 29), (.no, 30)]
  | 56, 5 => [(.no, 0), (.no, 1), (.no, 2), (.no, 3), (.no, 4), (.no, 5), (.no, 6), (.quiet, 7), (.soft [19] [3, 19, 20], 8), (.no, 9), (.no, 10), (.no, 11)]
  | 58, 1 => [(.no, 0), (.no, 2), (.quiet, 1), (.no, 3), (.no, 4), (.no, 5), (.no, 6)]
  | 59, 1 => [(.no, 0), (.no, 2), (.quiet, 1), (.no, 3), (.no, 4), (.no, 5), (.no, 6)]
  | 60, 5 => [(.no, 0), (.no, 1), (.no, 2), (.quiet, 3), (.soft [20] [3, 20, 21], 4), (.no, 5), (.no, 6), (.no, 7)]
  | 73, 12 => [(.no, 0), (.no, 1), (.no, 2), (.no, 3), (.no, 4), (.quiet, 5), (.no, 6), (.no, 7), (.no, 8), (.no, 9), (.no, 10), (.no, 11), (.no, 12), (.no, 13), (.no, 14), (.no, 15), (.no, 16), (.no, 17), (.no, 18), (.no, 19)]
  | 81, 13 => [(.no, 0), (.no, 1), (.no, 2), (.no, 3), (.no, 4), (.no, 5), (.no, 6), (.no, 7), (.no, 8), (.no, 9), (.quiet, 10), (.no, 11), (.no, 12), (.no, 13)]
  | _, _ => []
def okT : List Nat := [3, 4, 5, 6, 7, 8, 9, 10, 11, 12, 13, 14, 15, 16, 17, 18, 19, 20, 21, 22, 23, 24, 25, 26, 27, 28, 29, 30, 31, 32, 33, 34, 35, 36, 37, 38, 39, 40, 41, 42, 43, 44, 45, 46, 47, 48, 49, 50, 51, 52, 53, 54, 55, 56, 57, 58, 59, 60, 61, 62, 63, 64, 65, 66, 67, 68, 69, 70, 71, 72, 73, 74, 75, 76, 77, 78, 79, 80, 81, 82]
def treeT : List Nat := [6, 16, 20, 21, 29, 30, 35, 42, 46, 56, 60]
def mdT : Nat → List Mode
  | 13 => [.give]
  | 14 => [.io]
  | 15 => [.io, .ro]
  | 18 => [.io]
  | 19 => [.io]
  | 25 => [.io, .ro]
  | 26 => [.io]
  | 27 => [.io]
  | 31 => [.io, .ro]
  | 32 => [.io]
  | 33 => [.io]
  | 34 => [.io]
  | 40 => [.io]
  | 43 => [.io, .ro]
  | 44 => [.io, .ro]
  | 45 => [.io]
  | _ => []
noncomputable def E : Env := { P := Go.Proofs.Try.prog, md := mdT, keep := keepT, plan := planT, ok := fun f => okT.contains f, tree := fun f => treeT.contains f }
theorem mixed : E.P.follows .mixedOrders = true := by kernel_rfl
/-- One function's check. -/
def good1 (P : Program) (plan : Nat → Nat → List (Qt × Nat)) (md : Nat → List Mode) (f : Nat) : Bool :=
  match P.funcs[f]? with
  | some fn => (match fn.body with | some c => codeOK (plan f) c && codePin (mutSlots 0 (md f)) c | none => true) && !(fn.name == "runtime.NumGoroutine")
  | none => true
theorem good1_ok {E : Env} {l : List Nat} (ho : ∀ f, E.ok f = true → f ∈ l) (h : l.all (good1 E.P E.plan E.md) = true) : Sound E := by
  intro f hf fn c hfn hc
  have h1 := List.all_eq_true.1 h f (ho f hf)
  simp -implicitDefEqProofs only [good1, hfn, hc, Bool.and_eq_true, Bool.not_eq_true', beq_eq_false_iff_ne, ne_eq] at h1
  exact ⟨h1.1.1, h1.2, h1.1.2⟩
theorem sound : Sound E := good1_ok (l := okT) (fun f hf => by simpa [E] using hf) (by kernel_rfl)
abbrev noExt : Nat → Option (List AV → List (List AV) → Option (AV × List (List AV))) := fun _ => none
theorem hext : ∀ f g, noExt f = some g → ∀ args ios ret fin, g args ios = some (ret, fin) → Enters E.P f ∧ CallOK E.P (E.md f) f args ios ret fin := fun f g hg => by simp [noExt] at hg
abbrev tBool : Nat := 4
theorem tagBool : tagOf E.P 4 = .bool := by kernel_rfl
theorem one_ne : (1 = 0) = False := by simp
theorem ti3 : tiOf E.P 3 = some { tag := Tag.int IntKind.i64, agg := false, size := 1, bytes := 8, zero := some (Value.int IntKind.i64 0), elem := 0, fields := [], eqs := none } := by kernel_rfl
theorem ti4 : tiOf E.P 4 = some { tag := Tag.bool, agg := false, size := 1, bytes := 1, zero := some (Value.bool false), elem := 0, fields := [], eqs := none } := by kernel_rfl
theorem ti5 : tiOf E.P 5 = some { tag := Tag.int IntKind.u8, agg := false, size := 1, bytes := 1, zero := some (Value.int IntKind.u8 0), elem := 0, fields := [], eqs := none } := by kernel_rfl
theorem ti22 : tiOf E.P 22 = some { tag := Tag.slice, agg := false, size := 1, bytes := 24, zero := some (Value.slice none 0 0), elem := 5, fields := [], eqs := none } := by kernel_rfl
theorem sl22 : isSliceT E.P 22 = true := by kernel_rfl
theorem ti24 : tiOf E.P 24 = some { tag := Tag.slice, agg := false, size := 1, bytes := 24, zero := some (Value.slice none 0 0), elem := 39, fields := [], eqs := none } := by kernel_rfl
theorem sl24 : isSliceT E.P 24 = true := by kernel_rfl
theorem ti25 : tiOf E.P 25 = some { tag := Tag.slice, agg := false, size := 1, bytes := 24, zero := some (Value.slice none 0 0), elem := 56, fields := [], eqs := none } := by kernel_rfl
theorem sl25 : isSliceT E.P 25 = true := by kernel_rfl
theorem ti26 : tiOf E.P 26 = some { tag := Tag.slice, agg := false, size := 1, bytes := 24, zero := some (Value.slice none 0 0), elem := 64, fields := [], eqs := none } := by kernel_rfl
theorem sl26 : isSliceT E.P 26 = true := by kernel_rfl
theorem ti37 : tiOf E.P 37 = some { tag := Tag.struct, agg := true, size := 2, bytes := 32, zero := some (Value.agg #[Value.int IntKind.i64 0, Value.slice none 0 0]), elem := 0, fields := [(0, 1, false), (1, 1, false)], eqs := none } := by kernel_rfl
theorem is37 : isStructT E.P 37 = true := by kernel_rfl
theorem ti39 : tiOf E.P 39 = some { tag := Tag.struct, agg := true, size := 5, bytes := 72, zero := some (Value.agg #[Value.int IntKind.i64 0, Value.int IntKind.i64 0, Value.slice none 0 0, Value.int IntKind.i64 0, Value.slice none 0 0]), elem := 0, fields := [(0, 1, false), (1, 1, false), (2, 1, false), (3, 2, true)], eqs := none } := by kernel_rfl
theorem is39 : isStructT E.P 39 = true := by kernel_rfl
theorem ti52 : tiOf E.P 52 = some { tag := Tag.struct, agg := true, size := 3, bytes := 40, zero := some (Value.agg #[Value.slice none 0 0, Value.int IntKind.i64 0, Value.int IntKind.i64 0]), elem := 0, fields := [(0, 1, false), (1, 1, false), (2, 1, false)], eqs := none } := by kernel_rfl
theorem is52 : isStructT E.P 52 = true := by kernel_rfl
theorem ti56 : tiOf E.P 56 = some { tag := Tag.struct, agg := true, size := 2, bytes := 16, zero := some (Value.agg #[Value.int IntKind.i64 0, Value.int IntKind.i64 0]), elem := 0, fields := [(0, 1, false), (1, 1, false)], eqs := some [0, 0] } := by kernel_rfl
theorem is56 : isStructT E.P 56 = true := by kernel_rfl
theorem ti58 : tiOf E.P 58 = some { tag := Tag.slice, agg := false, size := 1, bytes := 24, zero := some (Value.slice none 0 0), elem := 3, fields := [], eqs := none } := by kernel_rfl
theorem sl58 : isSliceT E.P 58 = true := by kernel_rfl
theorem ti59 : tiOf E.P 59 = some { tag := Tag.slice, agg := false, size := 1, bytes := 24, zero := some (Value.slice none 0 0), elem := 61, fields := [], eqs := none } := by kernel_rfl
theorem sl59 : isSliceT E.P 59 = true := by kernel_rfl
theorem ti61 : tiOf E.P 61 = some { tag := Tag.struct, agg := true, size := 4, bytes := 48, zero := some (Value.agg #[Value.int IntKind.i64 0, Value.int IntKind.i64 0, Value.int IntKind.i64 0, Value.slice none 0 0]), elem := 0, fields := [(0, 1, false), (1, 1, false), (2, 1, false), (3, 1, false)], eqs := none } := by kernel_rfl
theorem is61 : isStructT E.P 61 = true := by kernel_rfl
theorem ti64 : tiOf E.P 64 = some { tag := Tag.struct, agg := true, size := 7, bytes := 72, zero := some (Value.agg #[Value.int IntKind.i64 0, Value.int IntKind.i64 0, Value.int IntKind.i64 0, Value.int IntKind.i64 0, Value.int IntKind.i64 0, Value.int IntKind.i64 0, Value.slice none 0 0]), elem := 0, fields := [(0, 1, false), (1, 1, false), (2, 1, false), (3, 4, true)], eqs := none } := by kernel_rfl
theorem is64 : isStructT E.P 64 = true := by kernel_rfl
theorem ti73 : tiOf E.P 73 = some { tag := Tag.array 6, agg := true, size := 6, bytes := 6, zero := some (Value.agg #[Value.bool false, Value.bool false, Value.bool false, Value.bool false, Value.bool false, Value.bool false]), elem := 4, fields := [], eqs := none } := by kernel_rfl
theorem na73 : isSliceT E.P 73 = false := by kernel_rfl
theorem ar73 : isArrayT E.P 73 = some 6 := by kernel_rfl
theorem ns73 : isStructT E.P 73 = false := by kernel_rfl
theorem ti87 : tiOf E.P 87 = some { tag := Tag.slice, agg := false, size := 1, bytes := 24, zero := some (Value.slice none 0 0), elem := 4, fields := [], eqs := none } := by kernel_rfl
theorem sl87 : isSliceT E.P 87 = true := by kernel_rfl
theorem plan_7_4 : E.plan 7 4 = [(.no, 0), (.no, 1), (.no, 2), (.no, 3), (.no, 4), (.no, 5), (.no, 6), (.no, 7), (.no, 8), (.no, 9), (.no, 10), (.no, 11), (.no, 12), (.no, 13), (.no, 14), (.no, 15), (.no, 16), (.no, 17), (.no, 18), (.no, 19), (.no, 20), (.no, 21), (.no, 22), (.no, 23), (.no, 24), (.no, 25), (.no, 26), (.no, 27), (.no, 28)] := rfl
theorem plan_16_4 : E.plan 16 4 = [(.no, 0), (.no, 2), (.quiet, 1), (.no, 3), (.no, 4), (.no, 5), (.no, 6)] := rfl
theorem plan_18_6 : E.plan 18 6 = [(.no, 0), (.no, 1), (.no, 2), (.no, 5), (.quiet, 6), (.no, 8), (.no, 10), (.soft [16] [0, 3, 16, 17, 21, 22, 24, 26], 3), (.no, 4), (.soft [16] [0, 3, 16, 17, 19, 20, 24, 26], 7), (.soft [16] [0, 3, 16, 17, 19, 20, 26], 9), (.soft [16] [3, 16, 17, 19, 20], 11), (.no, 12), (.soft [16] [3, 16, 17], 13), (.no, 14), (.no, 15), (.no, 16)] := rfl
theorem plan_18_9 : E.plan 18 9 = [(.no, 0), (.no, 1), (.no, 2), (.soft [38] [3, 38, 39], 3), (.soft [38] [3, 38, 39], 4), (.no, 5), (.no, 6), (.no, 7)] := rfl
theorem plan_21_1 : E.plan 21 1 = [(.no, 0), (.no, 1), (.no, 2), (.no, 3), (.no, 5), (.no, 6), (.no, 8), (.no, 9), (.soft [3, 5, 8, 11] [1, 3, 4, 5, 6, 8, 9, 11, 12], 4), (.soft [3, 5, 11] [1, 3, 4, 5, 6, 11, 12], 7), (.quiet, 10), (.no, 11), (.no, 12)] := rfl
theorem plan_27_5 : E.plan 27 5 = [(.no, 0), (.no, 1), (.no, 2), (.soft [15] [3, 15, 16], 3), (.soft [15] [3, 15, 16], 4), (.no, 5), (.no, 6), (.no, 7)] := rfl
theorem plan_28_4 : E.plan 28 4 = [(.no, 0), (.no, 1), (.no, 2), (.no, 3), (.no, 4), (.no, 5), (.no, 6), (.no, 7), (.no, 8), (.no, 9), (.no, 10), (.no, 11), (.no, 12), (.no, 13), (.no, 14), (.no, 15), (.no, 16), (.no, 17), (.no, 18), (.no, 19), (.no, 20), (.no, 21), (.no, 22), (.no, 23), (.no, 24), (.no, 25), (.no, 26), (.no, 27), (.no, 28), (.no, 29), (.no, 30), (.no, 31), (.no, 32), (.no, 33), (.no, 34), (.no, 35), (.no, 36), (.no, 37)] := rfl
theorem plan_30_1 : E.plan 30 1 = [(.no, 0), (.no, 1), (.no, 2), (.no, 3), (.no, 5), (.no, 6), (.no, 8), (.no, 9), (.soft [3, 5, 8, 11] [1, 3, 4, 5, 6, 8, 9, 11, 12], 4), (.soft [3, 5, 11] [1, 3, 4, 5, 6, 11, 12], 7), (.quiet, 10), (.no, 11), (.no, 12)] := rfl
theorem plan_33_10 : E.plan 33 10 = [(.no, 0), (.no, 1), (.no, 2), (.soft [27] [3, 27, 28], 3), (.soft [27] [3, 27, 28], 4), (.no, 5), (.no, 6), (.no, 7)] := rfl
theorem plan_35_1 : E.plan 35 1 = [(.no, 0), (.no, 1), (.no, 2), (.no, 3), (.quiet, 4), (.no, 5), (.no, 6)] := rfl
theorem plan_38_4 : E.plan 38 4 = [(.no, 0), (.no, 1), (.no, 2), (.no, 3), (.no, 4), (.no, 5), (.no, 6), (.no, 7), (.no, 8), (.no, 9), (.no, 10), (.no, 11), (.no, 12), (.no, 13), (.no, 15), (.no, 16), (.quiet, 14), (.no, 17), (.no, 18)] := rfl
theorem plan_40_2 : E.plan 40 2 = [(.no, 0), (.no, 1), (.no, 2), (.no, 3), (.no, 4), (.no, 5), (.no, 6), (.no, 7), (.no, 8), (.no, 9), (.no, 10), (.no, 11), (.no, 12)] := rfl
theorem plan_40_3 : E.plan 40 3 = [(.no, 0), (.no, 1), (.no, 2), (.no, 3), (.no, 4), (.no, 5), (.no, 6), (.no, 7), (.no, 8), (.no, 9)] := rfl
theorem plan_40_4 : E.plan 40 4 = [(.no, 0), (.no, 1), (.no, 2), (.no, 3), (.no, 4), (.no, 5), (.no, 6), (.no, 7), (.no, 8), (.no, 9), (.no, 10), (.no, 11), (.no, 12), (.no, 13), (.no, 14)] := rfl
theorem plan_44_9 : E.plan 44 9 = [(.no, 0), (.no, 1), (.no, 2), (.no, 3), (.soft [5] [5, 31], 4), (.no, 5), (.no, 6)] := rfl
theorem plan_44_11 : E.plan 44 11 = [(.no, 0), (.no, 1), (.no, 2), (.no, 3), (.soft [6] [6, 41], 4), (.no, 5), (.no, 6)] := rfl
theorem plan_54_4 : E.plan 54 4 = [(.no, 0), (.no, 1), (.no, 2), (.no, 3), (.no, 4), (.no, 5), (.no, 6), (.no, 7), (.no, 8), (.no, 9), (.no, 10), (.no, 11), (.no, 12), (.no, 13), (.no, 14), (.no, 15), (.no, 16), (.no, 17), (.no, 18), (.no, 19), (.no, 20), (.no, 21), (.no, 22), (.no, 24), (.no, 25), (.no, 26), (.no, 27), (.no, 28), (.quiet, 23), (.no, 29), (.no, 30)] := rfl
theorem plan_56_5 : E.plan 56 5 = [(.no, 0), (.no, 1), (.no, 2), (.no, 3), (.no, 4), (.no, 5), (.no, 6), (.quiet, 7), (.soft [19] [3, 19, 20], 8), (.no, 9), (.no, 10), (.no, 11)] := rfl
theorem plan_58_1 : E.plan 58 1 = [(.no, 0), (.no, 2), (.quiet, 1), (.no, 3), (.no, 4), (.no, 5), (.no, 6)] := rfl
theorem plan_59_1 : E.plan 59 1 = [(.no, 0), (.no, 2), (.quiet, 1), (.no, 3), (.no, 4), (.no, 5), (.no, 6)] := rfl
theorem plan_60_5 : E.plan 60 5 = [(.no, 0), (.no, 1), (.no, 2), (.quiet, 3), (.soft [20] [3, 20, 21], 4), (.no, 5), (.no, 6), (.no, 7)] := rfl
theorem plan_73_12 : E.plan 73 12 = [(.no, 0), (.no, 1), (.no, 2), (.no, 3), (.no, 4), (.quiet, 5), (.no, 6), (.no, 7), (.no, 8), (.no, 9), (.no, 10), (.no, 11), (.no, 12), (.no, 13), (.no, 14), (.no, 15), (.no, 16), (.no, 17), (.no, 18), (.no, 19)] := rfl
theorem plan_81_13 : E.plan 81 13 = [(.no, 0), (.no, 1), (.no, 2), (.no, 3), (.no, 4), (.no, 5), (.no, 6), (.no, 7), (.no, 8), (.no, 9), (.quiet, 10), (.no, 11), (.no, 12), (.no, 13)] := rfl
theorem keep_5_4 : E.keep 5 4 = [0, 6, 7] := rfl
theorem keep_7_2 : E.keep 7 2 = [0, 5, 6, 7] := rfl
theorem keep_9_3 : E.keep 9 3 = [1, 5, 8, 9, 10] := rfl
theorem keep_13_3 : E.keep 13 3 = [0, 3, 4] := rfl
theorem keep_14_4 : E.keep 14 4 = [0, 3, 4, 5] := rfl
theorem keep_17_7 : E.keep 17 7 = [4, 5] := rfl
theorem keep_18_8 : E.keep 18 8 = [0, 2, 3] := rfl
theorem keep_20_3 : E.keep 20 3 = [3, 7, 8, 9] := rfl
theorem keep_23_2 : E.keep 23 2 = [0, 1, 7, 8] := rfl
theorem keep_26_3 : E.keep 26 3 = [0, 3, 4] := rfl
theorem keep_27_3 : E.keep 27 3 = [0, 2, 3, 4] := rfl
theorem keep_28_2 : E.keep 28 2 = [0, 3] := rfl
theorem keep_29_3 : E.keep 29 3 = [0, 3, 4] := rfl
theorem keep_38_2 : E.keep 38 2 = [0, 5, 6, 7] := rfl
theorem keep_42_3 : E.keep 42 3 = [1, 2, 3, 4] := rfl
theorem keep_46_3 : E.keep 46 3 = [3, 7, 8, 9] := rfl
theorem keep_48_7 : E.keep 48 7 = [0, 4, 5, 6, 7, 21, 22, 23] := rfl
theorem keep_48_3 : E.keep 48 3 = [0, 4, 5, 6] := rfl
theorem keep_54_2 : E.keep 54 2 = [0, 3] := rfl
theorem keep_55_2 : E.keep 55 2 = [1, 3] := rfl
theorem keep_56_3 : E.keep 56 3 = [1, 2, 3, 4] := rfl
theorem keep_60_3 : E.keep 60 3 = [2, 3, 14, 15, 16] := rfl
theorem keep_61_2 : E.keep 61 2 = [0, 1, 7, 8] := rfl
theorem keep_64_2 : E.keep 64 2 = [0, 1, 5] := rfl
theorem keep_65_15 : E.keep 65 15 = [5, 6, 9] := rfl
theorem keep_65_10 : E.keep 65 10 = [0, 5, 6, 7, 8] := rfl
theorem keep_65_7 : E.keep 65 7 = [0, 5, 6, 7] := rfl
theorem keep_69_3 : E.keep 69 3 = [3, 7, 8, 9] := rfl
theorem keep_77_3 : E.keep 77 3 = [1, 2, 5] := rfl
theorem keep_78_4 : E.keep 78 4 = [1, 3] := rfl
theorem keep_80_2 : E.keep 80 2 = [0, 1, 7, 8] := rfl
theorem md_3 : E.md 3 = [] := rfl
theorem md_4 : E.md 4 = [] := rfl
theorem md_5 : E.md 5 = [] := rfl
theorem md_6 : E.md 6 = [] := rfl
theorem md_7 : E.md 7 = [] := rfl
theorem md_8 : E.md 8 = [] := rfl
theorem md_9 : E.md 9 = [] := rfl
theorem md_10 : E.md 10 = [] := rfl
theorem md_11 : E.md 11 = [] := rfl
theorem md_12 : E.md 12 = [] := rfl
theorem md_13 : E.md 13 = [.give] := rfl
theorem md_14 : E.md 14 = [.io] := rfl
theorem md_15 : E.md 15 = [.io, .ro] := rfl
theorem md_16 : E.md 16 = [] := rfl
theorem md_17 : E.md 17 = [] := rfl
theorem md_18 : E.md 18 = [.io] := rfl
theorem md_19 : E.md 19 = [.io] := rfl
theorem md_20 : E.md 20 = [] := rfl
theorem md_21 : E.md 21 = [] := rfl
theorem md_22 : E.md 22 = [] := rfl
theorem md_23 : E.md 23 = [] := rfl
theorem md_24 : E.md 24 = [] := rfl
theorem md_25 : E.md 25 = [.io, .ro] := rfl
theorem md_26 : E.md 26 = [.io] := rfl
theorem md_27 : E.md 27 = [.io] := rfl
theorem md_28 : E.md 28 = [] := rfl
theorem md_29 : E.md 29 = [] := rfl
theorem md_30 : E.md 30 = [] := rfl
theorem md_31 : E.md 31 = [.io, .ro] := rfl
theorem md_32 : E.md 32 = [.io] := rfl
theorem md_33 : E.md 33 = [.io] := rfl
theorem md_34 : E.md 34 = [.io] := rfl
theorem md_35 : E.md 35 = [] := rfl
theorem md_36 : E.md 36 = [] := rfl
theorem md_37 : E.md 37 = [] := rfl
theorem md_38 : E.md 38 = [] := rfl
theorem md_39 : E.md 39 = [] := rfl
theorem md_40 : E.md 40 = [.io] := rfl
theorem md_41 : E.md 41 = [] := rfl
theorem md_42 : E.md 42 = [] := rfl
theorem md_43 : E.md 43 = [.io, .ro] := rfl
theorem md_44 : E.md 44 = [.io, .ro] := rfl
theorem md_45 : E.md 45 = [.io] := rfl
theorem md_46 : E.md 46 = [] := rfl
theorem md_47 : E.md 47 = [] := rfl
theorem md_48 : E.md 48 = [] := rfl
theorem md_49 : E.md 49 = [] := rfl
theorem md_50 : E.md 50 = [] := rfl
theorem md_51 : E.md 51 = [] := rfl
theorem md_52 : E.md 52 = [] := rfl
theorem md_53 : E.md 53 = [] := rfl
theorem md_54 : E.md 54 = [] := rfl
theorem md_55 : E.md 55 = [] := rfl
theorem md_56 : E.md 56 = [] := rfl
theorem md_57 : E.md 57 = [] := rfl
theorem md_58 : E.md 58 = [] := rfl
theorem md_59 : E.md 59 = [] := rfl
theorem md_60 : E.md 60 = [] := rfl
theorem md_61 : E.md 61 = [] := rfl
theorem md_62 : E.md 62 = [] := rfl
theorem md_63 : E.md 63 = [] := rfl
theorem md_64 : E.md 64 = [] := rfl
theorem md_65 : E.md 65 = [] := rfl
theorem md_66 : E.md 66 = [] := rfl
theorem md_67 : E.md 67 = [] := rfl
theorem md_68 : E.md 68 = [] := rfl
theorem md_69 : E.md 69 = [] := rfl
theorem md_70 : E.md 70 = [] := rfl
theorem md_71 : E.md 71 = [] := rfl
theorem md_72 : E.md 72 = [] := rfl
theorem md_73 : E.md 73 = [] := rfl
theorem md_74 : E.md 74 = [] := rfl
theorem md_75 : E.md 75 = [] := rfl
theorem md_76 : E.md 76 = [] := rfl
theorem md_77 : E.md 77 = [] := rfl
theorem md_78 : E.md 78 = [] := rfl
theorem md_79 : E.md 79 = [] := rfl
theorem md_80 : E.md 80 = [] := rfl
theorem md_81 : E.md 81 = [] := rfl
theorem md_82 : E.md 82 = [] := rfl
theorem tr_3 : E.tree 3 = false := rfl
theorem tr_4 : E.tree 4 = false := rfl
theorem tr_5 : E.tree 5 = false := rfl
theorem tr_6 : E.tree 6 = true := rfl
theorem tr_7 : E.tree 7 = false := rfl
theorem tr_8 : E.tree 8 = false := rfl
theorem tr_9 : E.tree 9 = false := rfl
theorem tr_10 : E.tree 10 = false := rfl
theorem tr_11 : E.tree 11 = false := rfl
theorem tr_12 : E.tree 12 = false := rfl
theorem tr_13 : E.tree 13 = false := rfl
theorem tr_14 : E.tree 14 = false := rfl
theorem tr_15 : E.tree 15 = false := rfl
theorem tr_16 : E.tree 16 = true := rfl
theorem tr_17 : E.tree 17 = false := rfl
theorem tr_18 : E.tree 18 = false := rfl
theorem tr_19 : E.tree 19 = false := rfl
theorem tr_20 : E.tree 20 = true := rfl
theorem tr_21 : E.tree 21 = true := rfl
theorem tr_22 : E.tree 22 = false := rfl
theorem tr_23 : E.tree 23 = false := rfl
theorem tr_24 : E.tree 24 = false := rfl
theorem tr_25 : E.tree 25 = false := rfl
theorem tr_26 : E.tree 26 = false := rfl
theorem tr_27 : E.tree 27 = false := rfl
theorem tr_28 : E.tree 28 = false := rfl
theorem tr_29 : E.tree 29 = true := rfl
theorem tr_30 : E.tree 30 = true := rfl
theorem tr_31 : E.tree 31 = false := rfl
theorem tr_32 : E.tree 32 = false := rfl
theorem tr_33 : E.tree 33 = false := rfl
theorem tr_34 : E.tree 34 = false := rfl
theorem tr_35 : E.tree 35 = true := rfl
theorem tr_36 : E.tree 36 = false := rfl
theorem tr_37 : E.tree 37 = false := rfl
theorem tr_38 : E.tree 38 = false := rfl
theorem tr_39 : E.tree 39 = false := rfl
theorem tr_40 : E.tree 40 = false := rfl
theorem tr_41 : E.tree 41 = false := rfl
theorem tr_42 : E.tree 42 = true := rfl
theorem tr_43 : E.tree 43 = false := rfl
theorem tr_44 : E.tree 44 = false := rfl
theorem tr_45 : E.tree 45 = false := rfl
theorem tr_46 : E.tree 46 = true := rfl
theorem tr_47 : E.tree 47 = false := rfl
theorem tr_48 : E.tree 48 = false := rfl
theorem tr_49 : E.tree 49 = false := rfl
theorem tr_50 : E.tree 50 = false := rfl
theorem tr_51 : E.tree 51 = false := rfl
theorem tr_52 : E.tree 52 = false := rfl
theorem tr_53 : E.tree 53 = false := rfl
theorem tr_54 : E.tree 54 = false := rfl
theorem tr_55 : E.tree 55 = false := rfl
theorem tr_56 : E.tree 56 = true := rfl
theorem tr_57 : E.tree 57 = false := rfl
theorem tr_58 : E.tree 58 = false := rfl
theorem tr_59 : E.tree 59 = false := rfl
theorem tr_60 : E.tree 60 = true := rfl
theorem tr_61 : E.tree 61 = false := rfl
theorem tr_62 : E.tree 62 = false := rfl
theorem tr_63 : E.tree 63 = false := rfl
theorem tr_64 : E.tree 64 = false := rfl
theorem tr_65 : E.tree 65 = false := rfl
theorem tr_66 : E.tree 66 = false := rfl
theorem tr_67 : E.tree 67 = false := rfl
theorem tr_68 : E.tree 68 = false := rfl
theorem tr_69 : E.tree 69 = false := rfl
theorem tr_70 : E.tree 70 = false := rfl
theorem tr_71 : E.tree 71 = false := rfl
theorem tr_72 : E.tree 72 = false := rfl
theorem tr_73 : E.tree 73 = false := rfl
theorem tr_74 : E.tree 74 = false := rfl
theorem tr_75 : E.tree 75 = false := rfl
theorem tr_76 : E.tree 76 = false := rfl
theorem tr_77 : E.tree 77 = false := rfl
theorem tr_78 : E.tree 78 = false := rfl
theorem tr_79 : E.tree 79 = false := rfl
theorem tr_80 : E.tree 80 = false := rfl
theorem tr_81 : E.tree 81 = false := rfl
theorem tr_82 : E.tree 82 = false := rfl
theorem MDS : type_of% (And.intro (And.intro (And.intro (And.intro (And.intro (And.intro (And.intro @md_3 @md_4) (And.intro @md_5 (And.intro @md_6 @md_7))) (And.intro (And.intro @md_8 @md_9) (And.intro @md_10 (And.intro @md_11 @md_12)))) (And.intro (And.intro (And.intro @md_13 @md_14) (And.intro @md_15 (And.intro @md_16 @md_17))) (And.intro (And.intro @md_18 @md_19) (And.intro @md_20 (And.intro @md_21 @md_22))))) (And.intro (And.intro (And.intro (And.intro @md_23 @md_24) (And.intro @md_25 (And.intro @md_26 @md_27))) (And.intro (And.intro @md_28 @md_29) (And.intro @md_30 (And.intro @md_31 @md_32)))) (And.intro (And.intro (And.intro @md_33 @md_34) (And.intro @md_35 (And.intro @md_36 @md_37))) (And.intro (And.intro @md_38 @md_39) (And.intro @md_40 (And.intro @md_41 @md_42)))))) (And.intro (And.intro (And.intro (And.intro (And.intro @md_43 @md_44) (And.intro @md_45 (And.intro @md_46 @md_47))) (And.intro (And.intro @md_48 @md_49) (And.intro @md_50 (And.intro @md_51 @md_52)))) (And.intro (And.intro (And.intro @md_53 @md_54) (And.intro @md_55 (And.intro @md_56 @md_57))) (And.intro (And.intro @md_58 @md_59) (And.intro @md_60 (And.intro @md_61 @md_62))))) (And.intro (And.intro (And.intro (And.intro @md_63 @md_64) (And.intro @md_65 (And.intro @md_66 @md_67))) (And.intro (And.intro @md_68 @md_69) (And.intro @md_70 (And.intro @md_71 @md_72)))) (And.intro (And.intro (And.intro @md_73 @md_74) (And.intro @md_75 (And.intro @md_76 @md_77))) (And.intro (And.intro @md_78 @md_79) (And.intro @md_80 (And.intro @md_81 @md_82))))))) (And.intro (And.intro (And.intro (And.intro (And.intro (And.intro @tr_3 @tr_4) (And.intro @tr_5 (And.intro @tr_6 @tr_7))) (And.intro (And.intro @tr_8 @tr_9) (And.intro @tr_10 (And.intro @tr_11 @tr_12)))) (And.intro (And.intro (And.intro @tr_13 @tr_14) (And.intro @tr_15 (And.intro @tr_16 @tr_17))) (And.intro (And.intro @tr_18 @tr_19) (And.intro @tr_20 (And.intro @tr_21 @tr_22))))) (And.intro (And.intro (And.intro (And.intro @tr_23 @tr_24) (And.intro @tr_25 (And.intro @tr_26 @tr_27))) (And.intro (And.intro @tr_28 @tr_29) (And.intro @tr_30 (And.intro @tr_31 @tr_32)))) (And.intro (And.intro (And.intro @tr_33 @tr_34) (And.intro @tr_35 (And.intro @tr_36 @tr_37))) (And.intro (And.intro @tr_38 @tr_39) (And.intro @tr_40 (And.intro @tr_41 @tr_42)))))) (And.intro (And.intro (And.intro (And.intro (And.intro @tr_43 @tr_44) (And.intro @tr_45 (And.intro @tr_46 @tr_47))) (And.intro (And.intro @tr_48 @tr_49) (And.intro @tr_50 (And.intro @tr_51 @tr_52)))) (And.intro (And.intro (And.intro @tr_53 @tr_54) (And.intro @tr_55 (And.intro @tr_56 @tr_57))) (And.intro (And.intro @tr_58 @tr_59) (And.intro @tr_60 (And.intro @tr_61 @tr_62))))) (And.intro (And.intro (And.intro (And.intro @tr_63 @tr_64) (And.intro @tr_65 (And.intro @tr_66 @tr_67))) (And.intro (And.intro @tr_68 @tr_69) (And.intro @tr_70 (And.intro @tr_71 @tr_72)))) (And.intro (And.intro (And.intro @tr_73 @tr_74) (And.intro @tr_75 (And.intro @tr_76 @tr_77))) (And.intro (And.intro @tr_78 @tr_79) (And.intro @tr_80 (And.intro @tr_81 @tr_82)))))))) := (And.intro (And.intro (And.intro (And.intro (And.intro (And.intro (And.intro @md_3 @md_4) (And.intro @md_5 (And.intro @md_6 @md_7))) (And.intro (And.intro @md_8 @md_9) (And.intro @md_10 (And.intro @md_11 @md_12)))) (And.intro (And.intro (And.intro @md_13 @md_14) (And.intro @md_15 (And.intro @md_16 @md_17))) (And.intro (And.intro @md_18 @md_19) (And.intro @md_20 (And.intro @md_21 @md_22))))) (And.intro (And.intro (And.intro (And.intro @md_23 @md_24) (And.intro @md_25 (And.intro @md_26 @md_27))) (And.intro (And.intro @md_28 @md_29) (And.intro @md_30 (And.intro @md_31 @md_32)))) (And.intro (And.intro (And.intro @md_33 @md_34) (And.intro @md_35 (And.intro @md_36 @md_37))) (And.intro (And.intro @md_38 @md_39) (And.intro @md_40 (And.intro @md_41 @md_42)))))) (And.intro (And.intro (And.intro (And.intro (And.intro @md_43 @md_44) (And.intro @md_45 (And.intro @md_46 @md_47))) (And.intro (And.intro @md_48 @md_49) (And.intro @md_50 (And.intro @md_51 @md_52)))) (And.intro (And.intro (And.intro @md_53 @md_54) (And.intro @md_55 (And.intro @md_56 @md_57))) (And.intro (And.intro @md_58 @md_59) (And.intro @md_60 (And.intro @md_61 @md_62))))) (And.intro (And.intro (And.intro (And.intro @md_63 @md_64) (And.intro @md_65 (And.intro @md_66 @md_67))) (And.intro (And.intro @md_68 @md_69) (And.intro @md_70 (And.intro @md_71 @md_72)))) (And.intro (And.intro (And.intro @md_73 @md_74) (And.intro @md_75 (And.intro @md_76 @md_77))) (And.intro (And.intro @md_78 @md_79) (And.intro @md_80 (And.intro @md_81 @md_82))))))) (And.intro (And.intro (And.intro (And.intro (And.intro (And.intro @tr_3 @tr_4) (And.intro @tr_5 (And.intro @tr_6 @tr_7))) (And.intro (And.intro @tr_8 @tr_9) (And.intro @tr_10 (And.intro @tr_11 @tr_12)))) (And.intro (And.intro (And.intro @tr_13 @tr_14) (And.intro @tr_15 (And.intro @tr_16 @tr_17))) (And.intro (And.intro @tr_18 @tr_19) (And.intro @tr_20 (And.intro @tr_21 @tr_22))))) (And.intro (And.intro (And.intro (And.intro @tr_23 @tr_24) (And.intro @tr_25 (And.intro @tr_26 @tr_27))) (And.intro (And.intro @tr_28 @tr_29) (And.intro @tr_30 (And.intro @tr_31 @tr_32)))) (And.intro (And.intro (And.intro @tr_33 @tr_34) (And.intro @tr_35 (And.intro @tr_36 @tr_37))) (And.intro (And.intro @tr_38 @tr_39) (And.intro @tr_40 (And.intro @tr_41 @tr_42)))))) (And.intro (And.intro (And.intro (And.intro (And.intro @tr_43 @tr_44) (And.intro @tr_45 (And.intro @tr_46 @tr_47))) (And.intro (And.intro @tr_48 @tr_49) (And.intro @tr_50 (And.intro @tr_51 @tr_52)))) (And.intro (And.intro (And.intro @tr_53 @tr_54) (And.intro @tr_55 (And.intro @tr_56 @tr_57))) (And.intro (And.intro @tr_58 @tr_59) (And.intro @tr_60 (And.intro @tr_61 @tr_62))))) (And.intro (And.intro (And.intro (And.intro @tr_63 @tr_64) (And.intro @tr_65 (And.intro @tr_66 @tr_67))) (And.intro (And.intro @tr_68 @tr_69) (And.intro @tr_70 (And.intro @tr_71 @tr_72)))) (And.intro (And.intro (And.intro @tr_73 @tr_74) (And.intro @tr_75 (And.intro @tr_76 @tr_77))) (And.intro (And.intro @tr_78 @tr_79) (And.intro @tr_80 (And.intro @tr_81 @tr_82))))))))
theorem TIS : type_of% (And.intro (And.intro (And.intro (And.intro (And.intro @ti3 @ti4) (And.intro @ti5 @ti22)) (And.intro (And.intro @sl22 @ti24) (And.intro @sl24 @ti25))) (And.intro (And.intro (And.intro @sl25 @ti26) (And.intro @sl26 @ti37)) (And.intro (And.intro @is37 @ti39) (And.intro @is39 @ti52)))) (And.intro (And.intro (And.intro (And.intro @is52 @ti56) (And.intro @is56 @ti58)) (And.intro (And.intro @sl58 @ti59) (And.intro @sl59 @ti61))) (And.intro (And.intro (And.intro @is61 @ti64) (And.intro @is64 @ti73)) (And.intro (And.intro @na73 @ar73) (And.intro @ns73 (And.intro @ti87 @sl87)))))) := (And.intro (And.intro (And.intro (And.intro (And.intro @ti3 @ti4) (And.intro @ti5 @ti22)) (And.intro (And.intro @sl22 @ti24) (And.intro @sl24 @ti25))) (And.intro (And.intro (And.intro @sl25 @ti26) (And.intro @sl26 @ti37)) (And.intro (And.intro @is37 @ti39) (And.intro @is39 @ti52)))) (And.intro (And.intro (And.intro (And.intro @is52 @ti56) (And.intro @is56 @ti58)) (And.intro (And.intro @sl58 @ti59) (And.intro @sl59 @ti61))) (And.intro (And.intro (And.intro @is61 @ti64) (And.intro @is64 @ti73)) (And.intro (And.intro @na73 @ar73) (And.intro @ns73 (And.intro @ti87 @sl87))))))
end Go.Proofs.Ythjnobdeinodfaa.Flat
