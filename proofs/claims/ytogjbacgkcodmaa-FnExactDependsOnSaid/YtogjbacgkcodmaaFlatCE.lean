/-
The program's functions, and how they are reckoned with: tables.
-/
import Derived.Test.YtogjbacgkcodmaaFlatM5
import Derived.Test.YtogjbacgkcodmaaFlatM4
import Derived.Test.YtogjbacgkcodmaaProg
import Derived.KernelRfl
set_option linter.unusedVariables false
set_option linter.unusedSimpArgs false
namespace Go.Proofs.Ytogjbacgkcodmaa.Flat
def keepT : Nat → Nat → List Nat
  | 13, 15 => [8, 9, 11, 12]
  | 15, 4 => [2, 3, 5]
  | 26, 8 => [1, 3, 4, 5]
  | 26, 2 => [1, 3]
  | 27, 2 => [1, 6, 7, 8]
  | 34, 3 => [0, 1, 5, 6]
  | 35, 3 => [0, 3, 4]
  | 36, 3 => [0, 3, 4]
  | 37, 3 => [1, 5, 9, 10, 11]
  | 38, 4 => [0, 1, 5]
  | 39, 4 => [0, 1, 5]
  | 40, 2 => [0, 1, 5]
  | 41, 2 => [0, 1, 5]
  | 42, 2 => [0, 1, 5]
  | 43, 4 => [1, 2, 5]
  | 44, 3 => [0, 3, 4]
  | 46, 4 => [0, 1, 5]
  | 49, 2 => [0, 1, 5]
  | 52, 5 => [1, 3, 4]
  | 53, 5 => [1, 3, 12, 13]
  | 54, 2 => [0, 1, 5]
  | 55, 6 => [1, 3, 4, 5]
  | 55, 3 => [1, 3, 4]
  | 56, 3 => [3, 8, 9, 10]
  | 57, 2 => [0, 1, 5]
  | 60, 4 => [0, 1, 5]
  | 61, 5 => [2, 4, 5, 6, 7]
  | 62, 2 => [0, 1, 5]
  | 64, 3 => [0, 3, 4]
  | 65, 4 => [0, 1, 12, 13]
  | 66, 4 => [0, 1, 5]
  | 72, 4 => [2, 3, 31, 32, 33]
  | 74, 5 => [0, 1, 5]
  | 75, 3 => [0, 3, 4]
  | 76, 4 => [0, 1, 5]
  | 77, 2 => [0, 1, 5]
  | 81, 2 => [1, 2, 5]
  | 82, 3 => [0, 3, 4]
  | 83, 11 => [0, 11, 12]
  | 85, 2 => [0, 1, 5]
  | 86, 2 => [0, 1, 5]
  | 87, 3 => [0, 1, 5, 6]
  | 88, 3 => [1, 5, 8, 9]
  | 91, 3 => [0, 3, 4]
  | 93, 4 => [0, 1, 5, 6, 7]
  | 100, 2 => [0, 1, 7, 8]
  | 101, 2 => [0, 3, 7, 8]
  | _, _ => []
def planT : Nat → Nat → List (Bool × Nat)
  | 3, 8 => [(false, 0), (false, 2), (true, 1), (false, 3), (false, 4), (false, 5)]
  | 3, 14 => [(false, 0), (false, 1), (true, 2), (false, 3), (false, 4)]
  | 3, 16 => [(false, 0), (false, 1), (true, 2), (false, 3), (false, 4)]
  | 4, 10 => [(false, 0), (false, 1), (true, 2), (false, 3), (false, 4)]
  | 5, 8 => [(false, 0), (false, 2), (true, 1), (false, 3), (false, 4), (false, 5)]
  | 5, 14 => [(false, 0), (false, 1), (true, 2), (false, 3), (false, 4)]
  | 5, 16 => [(false, 0), (false, 1), (true, 2), (false, 3), (false, 4)]
  | 6, 10 => [(false, 0), (false, 1), (true, 2), (false, 3), (false, 4)]
  | 7, 10 => [(false, 0), (false, 1), (true, 2), (false, 3), (false, 4)]
  | 9, 13 => [(false, 0), (false, 1), (true, 2), (false, 3), (false, 4)]
  | 11, 10 => [(false, 0), (false, 1), (true, 2), (false, 3), (false, 4)]
  | 12, 10 => [(false, 0), (false, 1), (true, 2), (false, 3), (false, 4)]
  | 13, 11 => [(false, 0), (false, 1), (false, 2), (false, 3), (false, 5), (true, 4), (false, 6), (false, 7), (false, 8), (false, 9), (false, 10), (false, 11), (false, 12), (false, 14), (false, 15), (true, 13), (false, 16), (false, 17), (false, 18), (false, 19), (false, 20), (false, 21), (false, 22), (false, 23), (false, 24), (false, 25), (false, 26), (false, 27)]
  | 13, 19 => [(false, 0), (false, 1), (false, 2), (false, 3), (false, 4), (false, 5), (false, 6), (false, 8), (false, 9), (true, 7), (false, 10), (false, 11), (false, 12)]
  | 15, 6 => [(false, 0), (false, 1), (false, 2), (false, 3), (false, 4), (false, 5), (false, 6), (false, 7), (false, 8), (false, 9), (false, 10)]
  | 26, 10 => [(false, 0), (false, 1), (false, 2), (false, 3), (false, 4), (false, 5), (false, 6)]
  | 27, 4 => [(false, 0), (false, 1), (false, 2), (false, 3), (false, 4), (false, 5), (false, 6), (false, 7), (false, 8)]
  | 38, 6 => [(false, 0), (false, 1), (false, 2), (false, 3), (false, 4), (false, 5), (false, 6), (false, 7), (false, 8), (false, 9)]
  | 39, 6 => [(false, 0), (false, 1), (false, 2), (false, 3), (false, 4), (false, 5), (false, 6), (false, 7), (false, 8)]
  | 46, 6 => [(false, 0), (false, 1), (false, 2), (false, 3), (false, 4), (false, 5), (false, 6), (false, 7), (false, 8)]
  | 60, 6 => [(false, 0), (false, 1), (false, 2), (false, 3), (false, 4), (false, 5), (false, 6), (false, 7), (false, 8)]
  | 65, 6 => [(false, 0), (false, 1), (false, 2), (false, 3), (false, 4), (false, 5), (false, 6), (false, 7), (false, 8)]
  | 66, 6 => [(false, 0), (false, 1), (false, 2), (false, 3), (false, 4), (false, 5), (false, 6), (false, 7), (false, 8), (false, 9)]
  | 71, 3 => [(false, 0), (false, 1), (false, 2), (false, 3), (false, 4), (false, 5), (false, 6), (false, 7), (false, 8), (false, 9), (false, 10), (false, 11), (false, 12), (false, 13), (false, 14), (false, 15), (false, 16), (false, 17), (false, 18), (false, 19)]
  | 72, 6 => [(false, 0), (false, 1), (false, 2), (false, 3), (false, 4), (false, 5), (false, 6), (false, 7), (false, 8), (false, 9), (false, 10), (false, 11), (false, 12), (false, 13), (false, 14), (false, 15), (false, 16), (false, 17), (false, 18), (false, 19)]
  | 76, 6 => [(false, 0), (false, 1), (false, 2), (false, 3), (false, 4), (false, 5), (false, 6), (false, 7), (false, 8), (false, 9)]
  | 83, 13 => [(false, 0), (false, 1), (false, 2), (false, 3), (false, 4), (false, 5), (false, 6), (false, 7), (false, 8)]
  | 83, 15 => [(false, 0), (false, 1), (false, 2), (false, 3), (false, 4), (false, 5), (true, 6), (true, 7), (false, 8), (false, 9), (false, 10)]
  | 84, 10 => [(false, 0), (false, 1), (false, 2), (false, 3), (false, 4), (false, 5), (false, 6)]
  | 84, 13 => [(false, 0), (false, 1), (false, 2), (false, 3), (false, 4), (false, 5), (true, 6), (true, 7), (false, 8), (false, 9), (false, 10)]
  | 101, 4 => [(false, 0), (false, 1), (false, 2), (false, 3), (false, 4), (false, 5)]
  | 104, 2 => [(false, 0), (false, 1), (false, 2), (false, 3), (false, 4), (false, 5), (false, 6), (false, 7), (false, 8), (false, 9), (false, 10), (false, 11), (false, 12)]
  | 104, 3 => [(false, 0), (false, 1), (false, 2), (false, 3), (false, 4), (false, 5), (false, 6), (false, 7), (false, 8), (false, 9)]
  | _, _ => []
def okT : List Nat := [3, 4, 5, 6, 7, 8, 9, 10, 11, 12, 14, 15, 16, 17, 18, 19, 20, 21, 22, 23, 24, 25, 26, 27, 28, 29, 30, 31, 32, 33, 34, 35, 36, 37, 38, 39, 40, 41, 42, 43, 44, 45, 46, 47, 48, 49, 50, 51, 54, 55, 56, 57, 58, 59, 60, 61, 62, 63, 64, 65, 66, 67, 68, 69, 70, 71, 72, 73, 74, 75, 76, 77, 78, 79, 80, 81, 82, 83, 84, 85, 86, 87, 88, 91, 92, 93, 94, 96, 97, 98, 99, 100, 101, 105]
def treeT : List Nat := []
def mdT : Nat → List Mode
  | 40 => [.«mut», .ro]
  | 41 => [.«mut», .ro]
  | 49 => [.«mut», .ro]
  | 50 => [.«mut», .ro]
  | 83 => [.io, .ro, .ro, .ro]
  | 85 => [.«mut», .ro]
  | 89 => [.«mut»]
  | 90 => [.give]
  | 91 => [.give]
  | 92 => [.io, .ro]
  | 93 => [.io, .ro]
  | 94 => [.io, .ro]
  | 95 => [.io]
  | 96 => [.io, .ro]
  | 104 => [.io]
  | 105 => [.io]
  | _ => []
noncomputable def E : Env := { P := Go.Proofs.Try.prog, md := mdT, keep := keepT, plan := planT, ok := fun f => okT.contains f, tree := fun f => treeT.contains f }
theorem mixed : E.P.follows .mixedOrders = true := by kernel_rfl
/-- One function's check. -/
def good1 (P : Program) (plan : Nat → Nat → List (Bool × Nat)) (md : Nat → List Mode) (f : Nat) : Bool :=
  match P.funcs[f]? with
  | some fn => (match fn.body with | some c => codeOK (plan f) c && codePin (mutSlots 0 (md f)) c | none => true) && !(fn.name == "runtime.NumGoroutine")
  | none => true
theorem good1_ok {E : Env} {l : List Nat} (ho : ∀ f, E.ok f = true → f ∈ l) (h : l.all (good1 E.P E.plan E.md) = true) : Sound E := by
  intro f hf fn c hfn hc
  have h1 := List.all_eq_true.1 h f (ho f hf)
  simp -implicitDefEqProofs only [good1, hfn, hc, Bool.and_eq_true, Bool.not_eq_true', beq_eq_false_iff_ne, ne_eq] at h1
  exact ⟨h1.1.1, h1.2, h1.1.2⟩
theorem sound : Sound E := good1_ok (l := okT) (fun f hf => by simpa [E] using hf) (by kernel_rfl)
/-- Functions of the library that are not entered. -/
def extT : Nat → Option (List AV → List (List AV) → Option (AV × List (List AV)))
  | 89 => some sortExt
  | 90 => some compactExt
  | _ => none
abbrev noExt : Nat → Option (List AV → List (List AV) → Option (AV × List (List AV))) := extT
theorem ext_89 : noExt 89 = some sortExt := rfl
theorem ext_90 : noExt 90 = some compactExt := rfl
abbrev nSort : Nat := 89
abbrev nCompact : Nat := 90
abbrev tBool : Nat := 4
theorem tagBool : tagOf E.P 4 = .bool := by kernel_rfl
theorem one_ne : (1 = 0) = False := by simp
theorem ti3 : tiOf E.P 3 = some { tag := Tag.int IntKind.i64, agg := false, size := 1, bytes := 8, zero := some (Value.int IntKind.i64 0), elem := 0, fields := [], eqs := none } := by kernel_rfl
theorem ti4 : tiOf E.P 4 = some { tag := Tag.bool, agg := false, size := 1, bytes := 1, zero := some (Value.bool false), elem := 0, fields := [], eqs := none } := by kernel_rfl
theorem ti5 : tiOf E.P 5 = some { tag := Tag.int IntKind.u8, agg := false, size := 1, bytes := 1, zero := some (Value.int IntKind.u8 0), elem := 0, fields := [], eqs := none } := by kernel_rfl
theorem ti22 : tiOf E.P 22 = some { tag := Tag.slice, agg := false, size := 1, bytes := 24, zero := some (Value.slice none 0 0), elem := 124, fields := [], eqs := none } := by kernel_rfl
theorem sl22 : isSliceT E.P 22 = true := by kernel_rfl
theorem ti24 : tiOf E.P 24 = some { tag := Tag.struct, agg := true, size := 3, bytes := 40, zero := some (Value.agg #[Value.int IntKind.i64 0, Value.slice none 0 0, Value.int IntKind.i64 0]), elem := 0, fields := [(0, 1, false), (1, 1, false), (2, 1, false)], eqs := none } := by kernel_rfl
theorem is24 : isStructT E.P 24 = true := by kernel_rfl
theorem ti27 : tiOf E.P 27 = some { tag := Tag.slice, agg := false, size := 1, bytes := 24, zero := some (Value.slice none 0 0), elem := 92, fields := [], eqs := none } := by kernel_rfl
theorem sl27 : isSliceT E.P 27 = true := by kernel_rfl
theorem ti29 : tiOf E.P 29 = some { tag := Tag.struct, agg := true, size := 3, bytes := 40, zero := some (Value.agg #[Value.int IntKind.i64 0, Value.slice none 0 0, Value.int IntKind.i64 0]), elem := 0, fields := [(0, 1, false), (1, 1, false), (2, 1, false)], eqs := none } := by kernel_rfl
theorem is29 : isStructT E.P 29 = true := by kernel_rfl
theorem ti32 : tiOf E.P 32 = some { tag := Tag.slice, agg := false, size := 1, bytes := 24, zero := some (Value.slice none 0 0), elem := 34, fields := [], eqs := none } := by kernel_rfl
theorem sl32 : isSliceT E.P 32 = true := by kernel_rfl
theorem ti34 : tiOf E.P 34 = some { tag := Tag.struct, agg := true, size := 4, bytes := 48, zero := some (Value.agg #[Value.int IntKind.i64 0, Value.int IntKind.i64 0, Value.int IntKind.i64 0, Value.slice none 0 0]), elem := 0, fields := [(0, 1, false), (1, 1, false), (2, 1, false), (3, 1, false)], eqs := none } := by kernel_rfl
theorem is34 : isStructT E.P 34 = true := by kernel_rfl
theorem ti36 : tiOf E.P 36 = some { tag := Tag.struct, agg := true, size := 7, bytes := 72, zero := some (Value.agg #[Value.int IntKind.i64 0, Value.int IntKind.i64 0, Value.int IntKind.i64 0, Value.int IntKind.i64 0, Value.int IntKind.i64 0, Value.int IntKind.i64 0, Value.slice none 0 0]), elem := 0, fields := [(0, 1, false), (1, 1, false), (2, 1, false), (3, 4, true)], eqs := none } := by kernel_rfl
theorem is36 : isStructT E.P 36 = true := by kernel_rfl
theorem ti39 : tiOf E.P 39 = some { tag := Tag.slice, agg := false, size := 1, bytes := 24, zero := some (Value.slice none 0 0), elem := 41, fields := [], eqs := none } := by kernel_rfl
theorem sl39 : isSliceT E.P 39 = true := by kernel_rfl
theorem ti41 : tiOf E.P 41 = some { tag := Tag.struct, agg := true, size := 4, bytes := 48, zero := some (Value.agg #[Value.int IntKind.i64 0, Value.int IntKind.i64 0, Value.int IntKind.i64 0, Value.slice none 0 0]), elem := 0, fields := [(0, 1, false), (1, 1, false), (2, 1, false), (3, 1, false)], eqs := none } := by kernel_rfl
theorem is41 : isStructT E.P 41 = true := by kernel_rfl
theorem ti43 : tiOf E.P 43 = some { tag := Tag.struct, agg := true, size := 7, bytes := 72, zero := some (Value.agg #[Value.int IntKind.i64 0, Value.int IntKind.i64 0, Value.int IntKind.i64 0, Value.int IntKind.i64 0, Value.int IntKind.i64 0, Value.int IntKind.i64 0, Value.slice none 0 0]), elem := 0, fields := [(0, 1, false), (1, 1, false), (2, 1, false), (3, 4, true)], eqs := none } := by kernel_rfl
theorem is43 : isStructT E.P 43 = true := by kernel_rfl
theorem ti51 : tiOf E.P 51 = some { tag := Tag.struct, agg := true, size := 5, bytes := 72, zero := some (Value.agg #[Value.slice none 0 0, Value.int IntKind.i64 0, Value.slice none 0 0, Value.int IntKind.i64 0, Value.int IntKind.i64 0]), elem := 0, fields := [(0, 1, false), (1, 3, true), (4, 1, false)], eqs := none } := by kernel_rfl
theorem is51 : isStructT E.P 51 = true := by kernel_rfl
theorem ti55 : tiOf E.P 55 = some { tag := Tag.struct, agg := true, size := 5, bytes := 72, zero := some (Value.agg #[Value.slice none 0 0, Value.int IntKind.i64 0, Value.slice none 0 0, Value.int IntKind.i64 0, Value.int IntKind.i64 0]), elem := 0, fields := [(0, 1, false), (1, 3, true), (4, 1, false)], eqs := none } := by kernel_rfl
theorem is55 : isStructT E.P 55 = true := by kernel_rfl
theorem ti59 : tiOf E.P 59 = some { tag := Tag.slice, agg := false, size := 1, bytes := 24, zero := some (Value.slice none 0 0), elem := 107, fields := [], eqs := none } := by kernel_rfl
theorem sl59 : isSliceT E.P 59 = true := by kernel_rfl
theorem ti60 : tiOf E.P 60 = some { tag := Tag.slice, agg := false, size := 1, bytes := 24, zero := some (Value.slice none 0 0), elem := 3, fields := [], eqs := none } := by kernel_rfl
theorem sl60 : isSliceT E.P 60 = true := by kernel_rfl
theorem ti62 : tiOf E.P 62 = some { tag := Tag.slice, agg := false, size := 1, bytes := 24, zero := some (Value.slice none 0 0), elem := 105, fields := [], eqs := none } := by kernel_rfl
theorem sl62 : isSliceT E.P 62 = true := by kernel_rfl
theorem ti71 : tiOf E.P 71 = some { tag := Tag.slice, agg := false, size := 1, bytes := 24, zero := some (Value.slice none 0 0), elem := 4, fields := [], eqs := none } := by kernel_rfl
theorem sl71 : isSliceT E.P 71 = true := by kernel_rfl
theorem ti83 : tiOf E.P 83 = some { tag := Tag.slice, agg := false, size := 1, bytes := 24, zero := some (Value.slice none 0 0), elem := 5, fields := [], eqs := none } := by kernel_rfl
theorem sl83 : isSliceT E.P 83 = true := by kernel_rfl
theorem ti92 : tiOf E.P 92 = some { tag := Tag.struct, agg := true, size := 3, bytes := 24, zero := some (Value.agg #[Value.int IntKind.i64 0, Value.int IntKind.i64 0, Value.int IntKind.i64 0]), elem := 0, fields := [(0, 1, false), (1, 1, false), (2, 1, false)], eqs := some [0, 0, 0] } := by kernel_rfl
theorem is92 : isStructT E.P 92 = true := by kernel_rfl
theorem ti105 : tiOf E.P 105 = some { tag := Tag.struct, agg := true, size := 6, bytes := 48, zero := some (Value.agg #[Value.int IntKind.i64 0, Value.int IntKind.i64 0, Value.int IntKind.i64 0, Value.int IntKind.i64 0, Value.int IntKind.i64 0, Value.int IntKind.i64 0]), elem := 0, fields := [(0, 1, false), (1, 1, false), (2, 1, false), (3, 1, false), (4, 1, false), (5, 1, false)], eqs := some [0, 0, 0, 0, 0, 0] } := by kernel_rfl
theorem is105 : isStructT E.P 105 = true := by kernel_rfl
theorem ti107 : tiOf E.P 107 = some { tag := Tag.struct, agg := true, size := 6, bytes := 48, zero := some (Value.agg #[Value.int IntKind.i64 0, Value.int IntKind.i64 0, Value.int IntKind.i64 0, Value.int IntKind.i64 0, Value.int IntKind.i64 0, Value.int IntKind.i64 0]), elem := 0, fields := [(0, 1, false), (1, 1, false), (2, 1, false), (3, 1, false), (4, 1, false), (5, 1, false)], eqs := some [0, 0, 0, 0, 0, 0] } := by kernel_rfl
theorem is107 : isStructT E.P 107 = true := by kernel_rfl
theorem ti124 : tiOf E.P 124 = some { tag := Tag.struct, agg := true, size := 3, bytes := 24, zero := some (Value.agg #[Value.int IntKind.i64 0, Value.int IntKind.i64 0, Value.int IntKind.i64 0]), elem := 0, fields := [(0, 1, false), (1, 1, false), (2, 1, false)], eqs := some [0, 0, 0] } := by kernel_rfl
theorem is124 : isStructT E.P 124 = true := by kernel_rfl
theorem ti132 : tiOf E.P 132 = some { tag := Tag.struct, agg := true, size := 3, bytes := 40, zero := some (Value.agg #[Value.slice none 0 0, Value.int IntKind.i64 0, Value.int IntKind.i64 0]), elem := 0, fields := [(0, 1, false), (1, 1, false), (2, 1, false)], eqs := none } := by kernel_rfl
theorem is132 : isStructT E.P 132 = true := by kernel_rfl
theorem plan_3_8 : E.plan 3 8 = [(false, 0), (false, 2), (true, 1), (false, 3), (false, 4), (false, 5)] := rfl
theorem plan_3_14 : E.plan 3 14 = [(false, 0), (false, 1), (true, 2), (false, 3), (false, 4)] := rfl
theorem plan_3_16 : E.plan 3 16 = [(false, 0), (false, 1), (true, 2), (false, 3), (false, 4)] := rfl
theorem plan_4_10 : E.plan 4 10 = [(false, 0), (false, 1), (true, 2), (false, 3), (false, 4)] := rfl
theorem plan_5_8 : E.plan 5 8 = [(false, 0), (false, 2), (true, 1), (false, 3), (false, 4), (false, 5)] := rfl
theorem plan_5_14 : E.plan 5 14 = [(false, 0), (false, 1), (true, 2), (false, 3), (false, 4)] := rfl
theorem plan_5_16 : E.plan 5 16 = [(false, 0), (false, 1), (true, 2), (false, 3), (false, 4)] := rfl
theorem plan_6_10 : E.plan 6 10 = [(false, 0), (false, 1), (true, 2), (false, 3), (false, 4)] := rfl
theorem plan_7_10 : E.plan 7 10 = [(false, 0), (false, 1), (true, 2), (false, 3), (false, 4)] := rfl
theorem plan_9_13 : E.plan 9 13 = [(false, 0), (false, 1), (true, 2), (false, 3), (false, 4)] := rfl
theorem plan_11_10 : E.plan 11 10 = [(false, 0), (false, 1), (true, 2), (false, 3), (false, 4)] := rfl
theorem plan_12_10 : E.plan 12 10 = [(false, 0), (false, 1), (true, 2), (false, 3), (false, 4)] := rfl
theorem plan_13_11 : E.plan 13 11 = [(false, 0), (false, 1), (false, 2), (false, 3), (false, 5), (true, 4), (false, 6), (false, 7), (false, 8), (false, 9), (false, 10), (false, 11), (false, 12), (false, 14), (false, 15), (true, 13), (false, 16), (false, 17), (false, 18), (false, 19), (false, 20), (false, 21), (false, 22), (false, 23), (false, 24), (false, 25), (false, 26), (false, 27)] := rfl
theorem plan_13_19 : E.plan 13 19 = [(false, 0), (false, 1), (false, 2), (false, 3), (false, 4), (false, 5), (false, 6), (false, 8), (false, 9), (true, 7), (false, 10), (false, 11), (false, 12)] := rfl
theorem plan_15_6 : E.plan 15 6 = [(false, 0), (false, 1), (false, 2), (false, 3), (false, 4), (false, 5), (false, 6), (false, 7), (false, 8), (false, 9), (false, 10)] := rfl
theorem plan_26_10 : E.plan 26 10 = [(false, 0), (false, 1), (false, 2), (false, 3), (false, 4), (false, 5), (false, 6)] := rfl
theorem plan_27_4 : E.plan 27 4 = [(false, 0), (false, 1), (false, 2), (false, 3), (false, 4), (false, 5), (false, 6), (false, 7), (false, 8)] := rfl
theorem plan_38_6 : E.plan 38 6 = [(false, 0), (false, 1), (false, 2), (false, 3), (false, 4), (false, 5), (false, 6), (false, 7), (false, 8), (false, 9)] := rfl
theorem plan_39_6 : E.plan 39 6 = [(false, 0), (false, 1), (false, 2), (false, 3), (false, 4), (false, 5), (false, 6), (false, 7), (false, 8)] := rfl
theorem plan_46_6 : E.plan 46 6 = [(false, 0), (false, 1), (false, 2), (false, 3), (false, 4), (false, 5), (false, 6), (false, 7), (false, 8)] := rfl
theorem plan_60_6 : E.plan 60 6 = [(false, 0), (false, 1), (false, 2), (false, 3), (false, 4), (false, 5), (false, 6), (false, 7), (false, 8)] := rfl
theorem plan_65_6 : E.plan 65 6 = [(false, 0), (false, 1), (false, 2), (false, 3), (false, 4), (false, 5), (false, 6), (false, 7), (false, 8)] := rfl
theorem plan_66_6 : E.plan 66 6 = [(false, 0), (false, 1), (false, 2), (false, 3), (false, 4), (false, 5), (false, 6), (false, 7), (false, 8), (false, 9)] := rfl
theorem plan_71_3 : E.plan 71 3 = [(false, 0), (false, 1), (false, 2), (false, 3), (false, 4), (false, 5), (false, 6), (false, 7), (false, 8), (false, 9), (false, 10), (false, 11), (false, 12), (false, 13), (false, 14), (false, 15), (false, 16), (false, 17), (false, 18), (false, 19)] := rfl
theorem plan_72_6 : E.plan 72 6 = [(false, 0), (false, 1), (false, 2), (false, 3), (false, 4), (false, 5), (false, 6), (false, 7), (false, 8), (false, 9), (false, 10), (false, 11), (false, 12), (false, 13), (false, 14), (false, 15), (false, 16), (false, 17), (false, 18), (false, 19)] := rfl
theorem plan_76_6 : E.plan 76 6 = [(false, 0), (false, 1), (false, 2), (false, 3), (false, 4), (false, 5), (false, 6), (false, 7), (false, 8), (false, 9)] := rfl
theorem plan_83_13 : E.plan 83 13 = [(false, 0), (false, 1), (false, 2), (false, 3), (false, 4), (false, 5), (false, 6), (false, 7), (false, 8)] := rfl
theorem plan_83_15 : E.plan 83 15 = [(false, 0), (false, 1), (false, 2), (false, 3), (false, 4), (false, 5), (true, 6), (true, 7), (false, 8), (false, 9), (false, 10)] := rfl
theorem plan_84_10 : E.plan 84 10 = [(false, 0), (false, 1), (false, 2), (false, 3), (false, 4), (false, 5), (false, 6)] := rfl
theorem plan_84_13 : E.plan 84 13 = [(false, 0), (false, 1), (false, 2), (false, 3), (false, 4), (false, 5), (true, 6), (true, 7), (false, 8), (false, 9), (false, 10)] := rfl
theorem plan_101_4 : E.plan 101 4 = [(false, 0), (false, 1), (false, 2), (false, 3), (false, 4), (false, 5)] := rfl
theorem plan_104_2 : E.plan 104 2 = [(false, 0), (false, 1), (false, 2), (false, 3), (false, 4), (false, 5), (false, 6), (false, 7), (false, 8), (false, 9), (false, 10), (false, 11), (false, 12)] := rfl
theorem plan_104_3 : E.plan 104 3 = [(false, 0), (false, 1), (false, 2), (false, 3), (false, 4), (false, 5), (false, 6), (false, 7), (false, 8), (false, 9)] := rfl
theorem keep_13_15 : E.keep 13 15 = [8, 9, 11, 12] := rfl
theorem keep_15_4 : E.keep 15 4 = [2, 3, 5] := rfl
theorem keep_26_8 : E.keep 26 8 = [1, 3, 4, 5] := rfl
theorem keep_26_2 : E.keep 26 2 = [1, 3] := rfl
theorem keep_27_2 : E.keep 27 2 = [1, 6, 7, 8] := rfl
theorem keep_34_3 : E.keep 34 3 = [0, 1, 5, 6] := rfl
theorem keep_35_3 : E.keep 35 3 = [0, 3, 4] := rfl
theorem keep_36_3 : E.keep 36 3 = [0, 3, 4] := rfl
theorem keep_37_3 : E.keep 37 3 = [1, 5, 9, 10, 11] := rfl
theorem keep_38_4 : E.keep 38 4 = [0, 1, 5] := rfl
theorem keep_39_4 : E.keep 39 4 = [0, 1, 5] := rfl
theorem keep_40_2 : E.keep 40 2 = [0, 1, 5] := rfl
theorem keep_41_2 : E.keep 41 2 = [0, 1, 5] := rfl
theorem keep_42_2 : E.keep 42 2 = [0, 1, 5] := rfl
theorem keep_43_4 : E.keep 43 4 = [1, 2, 5] := rfl
theorem keep_44_3 : E.keep 44 3 = [0, 3, 4] := rfl
theorem keep_46_4 : E.keep 46 4 = [0, 1, 5] := rfl
theorem keep_49_2 : E.keep 49 2 = [0, 1, 5] := rfl
theorem keep_52_5 : E.keep 52 5 = [1, 3, 4] := rfl
theorem keep_53_5 : E.keep 53 5 = [1, 3, 12, 13] := rfl
theorem keep_54_2 : E.keep 54 2 = [0, 1, 5] := rfl
theorem keep_55_6 : E.keep 55 6 = [1, 3, 4, 5] := rfl
theorem keep_55_3 : E.keep 55 3 = [1, 3, 4] := rfl
theorem keep_56_3 : E.keep 56 3 = [3, 8, 9, 10] := rfl
theorem keep_57_2 : E.keep 57 2 = [0, 1, 5] := rfl
theorem keep_60_4 : E.keep 60 4 = [0, 1, 5] := rfl
theorem keep_61_5 : E.keep 61 5 = [2, 4, 5, 6, 7] := rfl
theorem keep_62_2 : E.keep 62 2 = [0, 1, 5] := rfl
theorem keep_64_3 : E.keep 64 3 = [0, 3, 4] := rfl
theorem keep_65_4 : E.keep 65 4 = [0, 1, 12, 13] := rfl
theorem keep_66_4 : E.keep 66 4 = [0, 1, 5] := rfl
theorem keep_72_4 : E.keep 72 4 = [2, 3, 31, 32, 33] := rfl
theorem keep_74_5 : E.keep 74 5 = [0, 1, 5] := rfl
theorem keep_75_3 : E.keep 75 3 = [0, 3, 4] := rfl
theorem keep_76_4 : E.keep 76 4 = [0, 1, 5] := rfl
theorem keep_77_2 : E.keep 77 2 = [0, 1, 5] := rfl
theorem keep_81_2 : E.keep 81 2 = [1, 2, 5] := rfl
theorem keep_82_3 : E.keep 82 3 = [0, 3, 4] := rfl
theorem keep_83_11 : E.keep 83 11 = [0, 11, 12] := rfl
theorem keep_85_2 : E.keep 85 2 = [0, 1, 5] := rfl
theorem keep_86_2 : E.keep 86 2 = [0, 1, 5] := rfl
theorem keep_87_3 : E.keep 87 3 = [0, 1, 5, 6] := rfl
theorem keep_88_3 : E.keep 88 3 = [1, 5, 8, 9] := rfl
theorem keep_91_3 : E.keep 91 3 = [0, 3, 4] := rfl
theorem keep_93_4 : E.keep 93 4 = [0, 1, 5, 6, 7] := rfl
theorem keep_100_2 : E.keep 100 2 = [0, 1, 7, 8] := rfl
theorem keep_101_2 : E.keep 101 2 = [0, 3, 7, 8] := rfl
theorem md_3 : E.md 3 = [] := rfl
theorem md_4 : E.md 4 = [] := rfl
theorem md_5 : E.md 5 = [] := rfl
theorem md_6 : E.md 6 = [] := rfl
theorem md_7 : E.md 7 = [] := rfl
theorem md_8 : E.md 8 = [] := rfl
theorem md_9 : E.md 9 = [] := rfl
theorem md_10 : E.md 10 = [] := rfl
theorem md_11 : E.md 11 = [] := rfl
theorem md_12 : E.md 12 = [] := rfl
theorem md_13 : E.md 13 = [] := rfl
theorem md_14 : E.md 14 = [] := rfl
theorem md_15 : E.md 15 = [] := rfl
theorem md_16 : E.md 16 = [] := rfl
theorem md_17 : E.md 17 = [] := rfl
theorem md_18 : E.md 18 = [] := rfl
theorem md_19 : E.md 19 = [] := rfl
theorem md_20 : E.md 20 = [] := rfl
theorem md_21 : E.md 21 = [] := rfl
theorem md_22 : E.md 22 = [] := rfl
theorem md_23 : E.md 23 = [] := rfl
theorem md_24 : E.md 24 = [] := rfl
theorem md_25 : E.md 25 = [] := rfl
theorem md_26 : E.md 26 = [] := rfl
theorem md_27 : E.md 27 = [] := rfl
theorem md_28 : E.md 28 = [] := rfl
theorem md_29 : E.md 29 = [] := rfl
theorem md_30 : E.md 30 = [] := rfl
theorem md_31 : E.md 31 = [] := rfl
theorem md_32 : E.md 32 = [] := rfl
theorem md_33 : E.md 33 = [] := rfl
theorem md_34 : E.md 34 = [] := rfl
theorem md_35 : E.md 35 = [] := rfl
theorem md_36 : E.md 36 = [] := rfl
theorem md_37 : E.md 37 = [] := rfl
theorem md_38 : E.md 38 = [] := rfl
theorem md_39 : E.md 39 = [] := rfl
theorem md_40 : E.md 40 = [.«mut», .ro] := rfl
theorem md_41 : E.md 41 = [.«mut», .ro] := rfl
theorem md_42 : E.md 42 = [] := rfl
theorem md_43 : E.md 43 = [] := rfl
theorem md_44 : E.md 44 = [] := rfl
theorem md_45 : E.md 45 = [] := rfl
theorem md_46 : E.md 46 = [] := rfl
theorem md_47 : E.md 47 = [] := rfl
theorem md_48 : E.md 48 = [] := rfl
theorem md_49 : E.md 49 = [.«mut», .ro] := rfl
theorem md_50 : E.md 50 = [.«mut», .ro] := rfl
theorem md_51 : E.md 51 = [] := rfl
theorem md_52 : E.md 52 = [] := rfl
theorem md_53 : E.md 53 = [] := rfl
theorem md_54 : E.md 54 = [] := rfl
theorem md_55 : E.md 55 = [] := rfl
theorem md_56 : E.md 56 = [] := rfl
theorem md_57 : E.md 57 = [] := rfl
theorem md_58 : E.md 58 = [] := rfl
theorem md_59 : E.md 59 = [] := rfl
theorem md_60 : E.md 60 = [] := rfl
theorem md_61 : E.md 61 = [] := rfl
theorem md_62 : E.md 62 = [] := rfl
theorem md_63 : E.md 63 = [] := rfl
theorem md_64 : E.md 64 = [] := rfl
theorem md_65 : E.md 65 = [] := rfl
theorem md_66 : E.md 66 = [] := rfl
theorem md_67 : E.md 67 = [] := rfl
theorem md_68 : E.md 68 = [] := rfl
theorem md_69 : E.md 69 = [] := rfl
theorem md_70 : E.md 70 = [] := rfl
theorem md_71 : E.md 71 = [] := rfl
theorem md_72 : E.md 72 = [] := rfl
theorem md_73 : E.md 73 = [] := rfl
theorem md_74 : E.md 74 = [] := rfl
theorem md_75 : E.md 75 = [] := rfl
theorem md_76 : E.md 76 = [] := rfl
theorem md_77 : E.md 77 = [] := rfl
theorem md_78 : E.md 78 = [] := rfl
theorem md_79 : E.md 79 = [] := rfl
theorem md_80 : E.md 80 = [] := rfl
theorem md_81 : E.md 81 = [] := rfl
theorem md_82 : E.md 82 = [] := rfl
theorem md_83 : E.md 83 = [.io, .ro, .ro, .ro] := rfl
theorem md_84 : E.md 84 = [] := rfl
theorem md_85 : E.md 85 = [.«mut», .ro] := rfl
theorem md_86 : E.md 86 = [] := rfl
theorem md_87 : E.md 87 = [] := rfl
theorem md_88 : E.md 88 = [] := rfl
theorem md_89 : E.md 89 = [.«mut»] := rfl
theorem md_90 : E.md 90 = [.give] := rfl
theorem md_91 : E.md 91 = [.give] := rfl
theorem md_92 : E.md 92 = [.io, .ro] := rfl
theorem md_93 : E.md 93 = [.io, .ro] := rfl
theorem md_94 : E.md 94 = [.io, .ro] := rfl
theorem md_95 : E.md 95 = [.io] := rfl
theorem md_96 : E.md 96 = [.io, .ro] := rfl
theorem md_97 : E.md 97 = [] := rfl
theorem md_98 : E.md 98 = [] := rfl
theorem md_99 : E.md 99 = [] := rfl
theorem md_100 : E.md 100 = [] := rfl
theorem md_101 : E.md 101 = [] := rfl
theorem md_104 : E.md 104 = [.io] := rfl
theorem md_105 : E.md 105 = [.io] := rfl
theorem tr_3 : E.tree 3 = false := rfl
theorem tr_4 : E.tree 4 = false := rfl
theorem tr_5 : E.tree 5 = false := rfl
theorem tr_6 : E.tree 6 = false := rfl
theorem tr_7 : E.tree 7 = false := rfl
theorem tr_8 : E.tree 8 = false := rfl
theorem tr_9 : E.tree 9 = false := rfl
theorem tr_10 : E.tree 10 = false := rfl
theorem tr_11 : E.tree 11 = false := rfl
theorem tr_12 : E.tree 12 = false := rfl
theorem tr_13 : E.tree 13 = false := rfl
theorem tr_14 : E.tree 14 = false := rfl
theorem tr_15 : E.tree 15 = false := rfl
theorem tr_16 : E.tree 16 = false := rfl
theorem tr_17 : E.tree 17 = false := rfl
theorem tr_18 : E.tree 18 = false := rfl
theorem tr_19 : E.tree 19 = false := rfl
theorem tr_20 : E.tree 20 = false := rfl
theorem tr_21 : E.tree 21 = false := rfl
theorem tr_22 : E.tree 22 = false := rfl
theorem tr_23 : E.tree 23 = false := rfl
theorem tr_24 : E.tree 24 = false := rfl
theorem tr_25 : E.tree 25 = false := rfl
theorem tr_26 : E.tree 26 = false := rfl
theorem tr_27 : E.tree 27 = false := rfl
theorem tr_28 : E.tree 28 = false := rfl
theorem tr_29 : E.tree 29 = false := rfl
theorem tr_30 : E.tree 30 = false := rfl
theorem tr_31 : E.tree 31 = false := rfl
theorem tr_32 : E.tree 32 = false := rfl
theorem tr_33 : E.tree 33 = false := rfl
theorem tr_34 : E.tree 34 = false := rfl
theorem tr_35 : E.tree 35 = false := rfl
theorem tr_36 : E.tree 36 = false := rfl
theorem tr_37 : E.tree 37 = false := rfl
theorem tr_38 : E.tree 38 = false := rfl
theorem tr_39 : E.tree 39 = false := rfl
theorem tr_40 : E.tree 40 = false := rfl
theorem tr_41 : E.tree 41 = false := rfl
theorem tr_42 : E.tree 42 = false := rfl
theorem tr_43 : E.tree 43 = false := rfl
theorem tr_44 : E.tree 44 = false := rfl
theorem tr_45 : E.tree 45 = false := rfl
theorem tr_46 : E.tree 46 = false := rfl
theorem tr_47 : E.tree 47 = false := rfl
theorem tr_48 : E.tree 48 = false := rfl
theorem tr_49 : E.tree 49 = false := rfl
theorem tr_50 : E.tree 50 = false := rfl
theorem tr_51 : E.tree 51 = false := rfl
theorem tr_52 : E.tree 52 = false := rfl
theorem tr_53 : E.tree 53 = false := rfl
theorem tr_54 : E.tree 54 = false := rfl
theorem tr_55 : E.tree 55 = false := rfl
theorem tr_56 : E.tree 56 = false := rfl
theorem tr_57 : E.tree 57 = false := rfl
theorem tr_58 : E.tree 58 = false := rfl
theorem tr_59 : E.tree 59 = false := rfl
theorem tr_60 : E.tree 60 = false := rfl
theorem tr_61 : E.tree 61 = false := rfl
theorem tr_62 : E.tree 62 = false := rfl
theorem tr_63 : E.tree 63 = false := rfl
theorem tr_64 : E.tree 64 = false := rfl
theorem tr_65 : E.tree 65 = false := rfl
theorem tr_66 : E.tree 66 = false := rfl
theorem tr_67 : E.tree 67 = false := rfl
theorem tr_68 : E.tree 68 = false := rfl
theorem tr_69 : E.tree 69 = false := rfl
theorem tr_70 : E.tree 70 = false := rfl
theorem tr_71 : E.tree 71 = false := rfl
theorem tr_72 : E.tree 72 = false := rfl
theorem tr_73 : E.tree 73 = false := rfl
theorem tr_74 : E.tree 74 = false := rfl
theorem tr_75 : E.tree 75 = false := rfl
theorem tr_76 : E.tree 76 = false := rfl
theorem tr_77 : E.tree 77 = false := rfl
theorem tr_78 : E.tree 78 = false := rfl
theorem tr_79 : E.tree 79 = false := rfl
theorem tr_80 : E.tree 80 = false := rfl
theorem tr_81 : E.tree 81 = false := rfl
theorem tr_82 : E.tree 82 = false := rfl
theorem tr_83 : E.tree 83 = false := rfl
theorem tr_84 : E.tree 84 = false := rfl
theorem tr_85 : E.tree 85 = false := rfl
theorem tr_86 : E.tree 86 = false := rfl
theorem tr_87 : E.tree 87 = false := rfl
theorem tr_88 : E.tree 88 = false := rfl
theorem tr_91 : E.tree 91 = false := rfl
theorem tr_92 : E.tree 92 = false := rfl
theorem tr_93 : E.tree 93 = false := rfl
theorem tr_94 : E.tree 94 = false := rfl
theorem tr_95 : E.tree 95 = false := rfl
theorem tr_96 : E.tree 96 = false := rfl
theorem tr_97 : E.tree 97 = false := rfl
theorem tr_98 : E.tree 98 = false := rfl
theorem tr_99 : E.tree 99 = false := rfl
theorem tr_100 : E.tree 100 = false := rfl
theorem tr_101 : E.tree 101 = false := rfl
theorem tr_104 : E.tree 104 = false := rfl
theorem tr_105 : E.tree 105 = false := rfl
theorem MDS : type_of% (And.intro (And.intro (And.intro (And.intro (And.intro (And.intro (And.intro @md_3 (And.intro @md_4 @md_5)) (And.intro @md_6 (And.intro @md_7 @md_8))) (And.intro (And.intro @md_9 (And.intro @md_10 @md_11)) (And.intro @md_12 (And.intro @md_13 @md_14)))) (And.intro (And.intro (And.intro @md_15 (And.intro @md_16 @md_17)) (And.intro @md_18 (And.intro @md_19 @md_20))) (And.intro (And.intro @md_21 (And.intro @md_22 @md_23)) (And.intro (And.intro @md_24 @md_25) (And.intro @md_26 @md_27))))) (And.intro (And.intro (And.intro (And.intro @md_28 (And.intro @md_29 @md_30)) (And.intro @md_31 (And.intro @md_32 @md_33))) (And.intro (And.intro @md_34 (And.intro @md_35 @md_36)) (And.intro @md_37 (And.intro @md_38 @md_39)))) (And.intro (And.intro (And.intro @md_40 (And.intro @md_41 @md_42)) (And.intro @md_43 (And.intro @md_44 @md_45))) (And.intro (And.intro @md_46 (And.intro @md_47 @md_48)) (And.intro (And.intro @md_49 @md_50) (And.intro @md_51 @md_52)))))) (And.intro (And.intro (And.intro (And.intro (And.intro @md_53 (And.intro @md_54 @md_55)) (And.intro @md_56 (And.intro @md_57 @md_58))) (And.intro (And.intro @md_59 (And.intro @md_60 @md_61)) (And.intro @md_62 (And.intro @md_63 @md_64)))) (And.intro (And.intro (And.intro @md_65 (And.intro @md_66 @md_67)) (And.intro @md_68 (And.intro @md_69 @md_70))) (And.intro (And.intro @md_71 (And.intro @md_72 @md_73)) (And.intro (And.intro @md_74 @md_75) (And.intro @md_76 @md_77))))) (And.intro (And.intro (And.intro (And.intro @md_78 (And.intro @md_79 @md_80)) (And.intro @md_81 (And.intro @md_82 @md_83))) (And.intro (And.intro @md_84 (And.intro @md_85 @md_86)) (And.intro @md_87 (And.intro @md_88 @md_89)))) (And.intro (And.intro (And.intro @md_90 (And.intro @md_91 @md_92)) (And.intro @md_93 (And.intro @md_94 @md_95))) (And.intro (And.intro @md_96 (And.intro @md_97 @md_98)) (And.intro (And.intro @md_99 @md_100) (And.intro @md_101 @md_104))))))) (And.intro (And.intro (And.intro (And.intro (And.intro (And.intro @md_105 (And.intro @tr_3 @tr_4)) (And.intro @tr_5 (And.intro @tr_6 @tr_7))) (And.intro (And.intro @tr_8 (And.intro @tr_9 @tr_10)) (And.intro @tr_11 (And.intro @tr_12 @tr_13)))) (And.intro (And.intro (And.intro @tr_14 (And.intro @tr_15 @tr_16)) (And.intro @tr_17 (And.intro @tr_18 @tr_19))) (And.intro (And.intro @tr_20 (And.intro @tr_21 @tr_22)) (And.intro (And.intro @tr_23 @tr_24) (And.intro @tr_25 @tr_26))))) (And.intro (And.intro (And.intro (And.intro @tr_27 (And.intro @tr_28 @tr_29)) (And.intro @tr_30 (And.intro @tr_31 @tr_32))) (And.intro (And.intro @tr_33 (And.intro @tr_34 @tr_35)) (And.intro @tr_36 (And.intro @tr_37 @tr_38)))) (And.intro (And.intro (And.intro @tr_39 (And.intro @tr_40 @tr_41)) (And.intro @tr_42 (And.intro @tr_43 @tr_44))) (And.intro (And.intro @tr_45 (And.intro @tr_46 @tr_47)) (And.intro (And.intro @tr_48 @tr_49) (And.intro @tr_50 @tr_51)))))) (And.intro (And.intro (And.intro (And.intro (And.intro @tr_52 (And.intro @tr_53 @tr_54)) (And.intro @tr_55 (And.intro @tr_56 @tr_57))) (And.intro (And.intro @tr_58 (And.intro @tr_59 @tr_60)) (And.intro @tr_61 (And.intro @tr_62 @tr_63)))) (And.intro (And.intro (And.intro @tr_64 (And.intro @tr_65 @tr_66)) (And.intro @tr_67 (And.intro @tr_68 @tr_69))) (And.intro (And.intro @tr_70 (And.intro @tr_71 @tr_72)) (And.intro (And.intro @tr_73 @tr_74) (And.intro @tr_75 @tr_76))))) (And.intro (And.intro (And.intro (And.intro @tr_77 (And.intro @tr_78 @tr_79)) (And.intro @tr_80 (And.intro @tr_81 @tr_82))) (And.intro (And.intro @tr_83 (And.intro @tr_84 @tr_85)) (And.intro @tr_86 (And.intro @tr_87 @tr_88)))) (And.intro (And.intro (And.intro @tr_91 (And.intro @tr_92 @tr_93)) (And.intro @tr_94 (And.intro @tr_95 @tr_96))) (And.intro (And.intro @tr_97 (And.intro @tr_98 @tr_99)) (And.intro (And.intro @tr_100 @tr_101) (And.intro @tr_104 @tr_105)))))))) := (And.intro (And.intro (And.intro (And.intro (And.intro (And.intro (And.intro @md_3 (And.intro @md_4 @md_5)) (And.intro @md_6 (And.intro @md_7 @md_8))) (And.intro (And.intro @md_9 (And.intro @md_10 @md_11)) (And.intro @md_12 (And.intro @md_13 @md_14)))) (And.intro (And.intro (And.intro @md_15 (And.intro @md_16 @md_17)) (And.intro @md_18 (And.intro @md_19 @md_20))) (And.intro (And.intro @md_21 (And.intro @md_22 @md_23)) (And.intro (And.intro @md_24 @md_25) (And.intro @md_26 @md_27))))) (And.intro (And.intro (And.intro (And.intro @md_28 (And.intro @md_29 @md_30)) (And.intro @md_31 (And.intro @md_32 @md_33))) (And.intro (And.intro @md_34 (And.intro @md_35 @md_36)) (And.intro @md_37 (And.intro @md_38 @md_39)))) (And.intro (And.intro (And.intro @md_40 (And.intro @md_41 @md_42)) (And.intro @md_43 (And.intro @md_44 @md_45))) (And.intro (And.intro @md_46 (And.intro @md_47 @md_48)) (And.intro (And.intro @md_49 @md_50) (And.intro @md_51 @md_52)))))) (And.intro (And.intro (And.intro (And.intro (And.intro @md_53 (And.intro @md_54 @md_55)) (And.intro @md_56 (And.intro @md_57 @md_58))) (And.intro (And.intro @md_59 (And.intro @md_60 @md_61)) (And.intro @md_62 (And.intro @md_63 @md_64)))) (And.intro (And.intro (And.intro @md_65 (And.intro @md_66 @md_67)) (And.intro @md_68 (And.intro @md_69 @md_70))) (And.intro (And.intro @md_71 (And.intro @md_72 @md_73)) (And.intro (And.intro @md_74 @md_75) (And.intro @md_76 @md_77))))) (And.intro (And.intro (And.intro (And.intro @md_78 (And.intro @md_79 @md_80)) (And.intro @md_81 (And.intro @md_82 @md_83))) (And.intro (And.intro @md_84 (And.intro @md_85 @md_86)) (And.intro @md_87 (And.intro @md_88 @md_89)))) (And.intro (And.intro (And.intro @md_90 (And.intro @md_91 @md_92)) (And.intro @md_93 (And.intro @md_94 @md_95))) (And.intro (And.intro @md_96 (And.intro @md_97 @md_98)) (And.intro (And.intro @md_99 @md_100) (And.intro @md_101 @md_104))))))) (And.intro (And.intro (And.intro (And.intro (And.intro (And.intro @md_105 (And.intro @tr_3 @tr_4)) (And.intro @tr_5 (And.intro @tr_6 @tr_7))) (And.intro (And.intro @tr_8 (And.intro @tr_9 @tr_10)) (And.intro @tr_11 (And.intro @tr_12 @tr_13)))) (And.intro (And.intro (And.intro @tr_14 (And.intro @tr_15 @tr_16)) (And.intro @tr_17 (And.intro @tr_18 @tr_19))) (And.intro (And.intro @tr_20 (And.intro @tr_21 @tr_22)) (And.intro (And.intro @tr_23 @tr_24) (And.intro @tr_25 @tr_26))))) (And.intro (And.intro (And.intro (And.intro @tr_27 (And.intro @tr_28 @tr_29)) (And.intro @tr_30 (And.intro @tr_31 @tr_32))) (And.intro (And.intro @tr_33 (And.intro @tr_34 @tr_35)) (And.intro @tr_36 (And.intro @tr_37 @tr_38)))) (And.intro (And.intro (And.intro @tr_39 (And.intro @tr_40 @tr_41)) (And.intro @tr_42 (And.intro @tr_43 @tr_44))) (And.intro (And.intro @tr_45 (And.intro @tr_46 @tr_47)) (And.intro (And.intro @tr_48 @tr_49) (And.intro @tr_50 @tr_51)))))) (And.intro (And.intro (And.intro (And.intro (And.intro @tr_52 (And.intro @tr_53 @tr_54)) (And.intro @tr_55 (And.intro @tr_56 @tr_57))) (And.intro (And.intro @tr_58 (And.intro @tr_59 @tr_60)) (And.intro @tr_61 (And.intro @tr_62 @tr_63)))) (And.intro (And.intro (And.intro @tr_64 (And.intro @tr_65 @tr_66)) (And.intro @tr_67 (And.intro @tr_68 @tr_69))) (And.intro (And.intro @tr_70 (And.intro @tr_71 @tr_72)) (And.intro (And.intro @tr_73 @tr_74) (And.intro @tr_75 @tr_76))))) (And.intro (And.intro (And.intro (And.intro @tr_77 (And.intro @tr_78 @tr_79)) (And.intro @tr_80 (And.intro @tr_81 @tr_82))) (And.intro (And.intro @tr_83 (And.intro @tr_84 @tr_85)) (And.intro @tr_86 (And.intro @tr_87 @tr_88)))) (And.intro (And.intro (And.intro @tr_91 (And.intro @tr_92 @tr_93)) (And.intro @tr_94 (And.intro @tr_95 @tr_96))) (And.intro (And.intro @tr_97 (And.intro @tr_98 @tr_99)) (And.intro (And.intro @tr_100 @tr_101) (And.intro @tr_104 @tr_105))))))))
theorem TIS : type_of% (And.intro (And.intro (And.intro (And.intro (And.intro @ti3 @ti4) (And.intro @ti5 (And.intro @ti22 @sl22))) (And.intro (And.intro @ti24 (And.intro @is24 @ti27)) (And.intro @sl27 (And.intro @ti29 @is29)))) (And.intro (And.intro (And.intro @ti32 (And.intro @sl32 @ti34)) (And.intro @is34 (And.intro @ti36 @is36))) (And.intro (And.intro @ti39 (And.intro @sl39 @ti41)) (And.intro @is41 (And.intro @ti43 @is43))))) (And.intro (And.intro (And.intro (And.intro @ti51 (And.intro @is51 @ti55)) (And.intro @is55 (And.intro @ti59 @sl59))) (And.intro (And.intro @ti60 (And.intro @sl60 @ti62)) (And.intro @sl62 (And.intro @ti71 @sl71)))) (And.intro (And.intro (And.intro @ti83 (And.intro @sl83 @ti92)) (And.intro @is92 (And.intro @ti105 @is105))) (And.intro (And.intro @ti107 (And.intro @is107 @ti124)) (And.intro @is124 (And.intro @ti132 @is132)))))) := (And.intro (And.intro (And.intro (And.intro (And.intro @ti3 @ti4) (And.intro @ti5 (And.intro @ti22 @sl22))) (And.intro (And.intro @ti24 (And.intro @is24 @ti27)) (And.intro @sl27 (And.intro @ti29 @is29)))) (And.intro (And.intro (And.intro @ti32 (And.intro @sl32 @ti34)) (And.intro @is34 (And.intro @ti36 @is36))) (And.intro (And.intro @ti39 (And.intro @sl39 @ti41)) (And.intro @is41 (And.intro @ti43 @is43))))) (And.intro (And.intro (And.intro (And.intro @ti51 (And.intro @is51 @ti55)) (And.intro @is55 (And.intro @ti59 @sl59))) (And.intro (And.intro @ti60 (And.intro @sl60 @ti62)) (And.intro @sl62 (And.intro @ti71 @sl71)))) (And.intro (And.intro (And.intro @ti83 (And.intro @sl83 @ti92)) (And.intro @is92 (And.intro @ti105 @is105))) (And.intro (And.intro @ti107 (And.intro @is107 @ti124)) (And.intro @is124 (And.intro @ti132 @is132))))))
end Go.Proofs.Ytogjbacgkcodmaa.Flat
