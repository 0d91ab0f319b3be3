/-
The program's functions, and how they are reckoned with: tables.
-/
import Derived.Test.YtfljmpjckeopgaaGreatFlatM5
import Derived.Test.YtfljmpjckeopgaaGreatFlatM4
import Derived.Test.YtfljmpjckeopgaaGreatProg
import Derived.KernelRfl
set_option linter.unusedVariables false
set_option linter.unusedSimpArgs false
namespace Go.Proofs.YtfljmpjckeopgaaGreat.Flat
def keepT : Nat → Nat → List Nat
  | 14, 10 => [0, 1, 6, 7, 9, 11, 12]
  | 14, 7 => [0, 1, 6, 7, 9, 11]
  | 14, 3 => [0, 1, 6, 7, 9, 10]
  | 15, 3 => [0, 3, 4]
  | 16, 3 => [0, 3, 4]
  | 19, 9 => [0, 1, 6, 7, 9, 11, 12]
  | 19, 7 => [0, 1, 6, 7, 9]
  | 19, 3 => [0, 1, 6, 7, 9, 16, 17]
  | 20, 4 => [0, 1, 5]
  | 21, 4 => [0, 1, 5]
  | 22, 4 => [0, 1, 5]
  | 24, 2 => [0, 1, 5]
  | 25, 2 => [0, 1, 5]
  | 27, 2 => [0, 1, 5]
  | 28, 2 => [0, 1, 5]
  | 30, 5 => [0, 1, 4, 7, 8, 11, 12]
  | 32, 5 => [0, 1, 4, 7, 8, 11, 12]
  | 35, 2 => [1, 2, 3, 4, 9]
  | 36, 3 => [0, 3, 4]
  | 38, 4 => [0, 1, 5]
  | 40, 5 => [0, 1, 6, 7, 9, 10]
  | 42, 3 => [0, 1, 6, 7, 9, 14, 15, 16]
  | 44, 5 => [6, 9, 10]
  | 46, 3 => [0, 1, 6, 7, 9, 10]
  | 47, 3 => [0, 1, 7, 9, 14, 15, 16]
  | 49, 3 => [0, 3, 4]
  | 53, 5 => [0, 1, 5]
  | 54, 3 => [0, 1, 5, 6]
  | 57, 3 => [0, 3, 4]
  | 58, 3 => [1, 5, 9, 10, 11]
  | 61, 4 => [0, 1, 5]
  | 62, 2 => [0, 1, 5]
  | 63, 5 => [0, 1, 5]
  | 68, 3 => [0, 3, 4]
  | 73, 4 => [0, 1, 5]
  | 79, 4 => [1, 2, 5]
  | 84, 2 => [1, 3]
  | 86, 3 => [2, 5, 8, 9, 10]
  | 89, 3 => [0, 1, 5, 6]
  | 90, 3 => [1, 5, 9, 10, 11]
  | 91, 2 => [0, 1, 5]
  | 96, 2 => [0, 1, 5]
  | 106, 2 => [0, 1, 7, 8]
  | 109, 2 => [0, 1, 2, 3, 4, 5, 13]
  | 110, 3 => [0, 1, 2, 3, 4, 11, 12]
  | 111, 8 => [1, 3, 4, 5]
  | 111, 2 => [1, 3]
  | 112, 3 => [0, 3, 4]
  | 115, 3 => [1, 2, 3, 4, 11, 14, 15, 16]
  | 116, 2 => [1, 6, 7, 8]
  | 117, 2 => [1, 2, 5]
  | 118, 4 => [0, 1, 5]
  | 123, 2 => [0, 1, 7, 8]
  | 125, 3 => [1, 2, 5]
  | 126, 4 => [1, 3]
  | 129, 3 => [3, 7, 8, 9]
  | 131, 13 => [11, 15, 16]
  | 131, 8 => [0, 1, 2, 3, 4, 11, 12, 13, 14]
  | 131, 3 => [0, 1, 2, 3, 4, 11, 12]
  | 136, 3 => [0, 2, 3, 4, 11, 15, 16, 17]
  | 137, 2 => [0, 1, 7, 8]
  | 140, 4 => [2, 3, 31, 32, 33]
  | 142, 2 => [0, 1, 7, 8]
  | 147, 15 => [5, 6, 9]
  | 147, 10 => [0, 5, 6, 7, 8]
  | 147, 7 => [0, 5, 6, 7]
  | 151, 5 => [1, 5, 15, 16]
  | 160, 2 => [0, 1, 7, 8]
  | 163, 7 => [0, 4, 5, 6, 7, 21, 22, 23]
  | 163, 3 => [0, 4, 5, 6]
  | 167, 2 => [0, 3, 7, 8]
  | _, _ => []
def planT : Nat → Nat → List (Bool × Nat)
  | 3, 11 => [(false, 0), (false, 2), (false, 4), (false, 6), (true, 1), (true, 3), (true, 5), (false, 7), (false, 8), (false, 9)]
  | 3, 15 => [(false, 0), (false, 1), (false, 2), (false, 3), (true, 4), (false, 5), (false, 6)]
  | 3, 22 => [(false, 0), (false, 1), (true, 2), (false, 3), (false, 4)]
  | 3, 38 => [(false, 0), (false, 2), (false, 4), (false, 6), (true, 1), (true, 3), (true, 5), (false, 7), (false, 8), (false, 9)]
  | 4, 11 => [(false, 0), (false, 2), (false, 4), (false, 6), (false, 8), (true, 1), (true, 3), (true, 5), (true, 7), (false, 9), (false, 10)]
  | 4, 15 => [(false, 0), (false, 1), (false, 2), (false, 3), (false, 5), (true, 4), (false, 6), (false, 7)]
  | 4, 22 => [(false, 0), (false, 1), (true, 2), (false, 3), (false, 4)]
  | 5, 22 => [(false, 0), (false, 1), (true, 2), (false, 3), (false, 4)]
  | 6, 11 => [(false, 0), (false, 2), (false, 4), (false, 6), (true, 1), (true, 3), (true, 5), (false, 7), (false, 8), (false, 9)]
  | 6, 15 => [(false, 0), (false, 1), (false, 2), (false, 3), (true, 4), (false, 5), (false, 6)]
  | 6, 22 => [(false, 0), (false, 1), (true, 2), (false, 3), (false, 4)]
  | 7, 11 => [(false, 0), (false, 2), (false, 4), (false, 6), (true, 1), (true, 3), (true, 5), (false, 7), (false, 8), (false, 9)]
  | 7, 15 => [(false, 0), (false, 1), (false, 2), (false, 3), (true, 4), (false, 5), (false, 6)]
  | 7, 22 => [(false, 0), (false, 1), (true, 2), (false, 3), (false, 4)]
  | 8, 11 => [(false, 0), (false, 2), (false, 4), (false, 6), (true, 1), (true, 3), (true, 5), (false, 7), (false, 8), (false, 9)]
  | 8, 15 => [(false, 0), (false, 1), (false, 2), (false, 3), (true, 4), (false, 5), (false, 6)]
  | 8, 22 => [(false, 0), (false, 1), (true, 2), (false, 3), (false, 4)]
  | 8, 38 => [(false, 0), (false, 2), (false, 4), (false, 6), (true, 1), (true, 3), (true, 5), (false, 7), (false, 8), (false, 9)]
  | 9, 13 => [(false, 0), (false, 2), (false, 4), (false, 6), (false, 8), (true, 1), (true, 3), (true, 5), (true, 7), (false, 9), (false, 10), (false, 11)]
  | 9, 18 => [(false, 0), (false, 1), (false, 2), (false, 3), (false, 5), (true, 4), (false, 6), (false, 7)]
  | 9, 25 => [(false, 0), (false, 1), (true, 2), (false, 3), (false, 4)]
  | 10, 13 => [(false, 0), (false, 2), (false, 4), (false, 6), (false, 8), (false, 10), (true, 1), (true, 3), (true, 5), (true, 7), (true, 9), (false, 11), (false, 12)]
  | 10, 18 => [(false, 0), (false, 1), (false, 2), (false, 3), (false, 5), (false, 6), (true, 4), (false, 7), (false, 8)]
  | 10, 25 => [(false, 0), (false, 1), (true, 2), (false, 3), (false, 4)]
  | 20, 6 => [(false, 0), (false, 1), (false, 2), (false, 3), (false, 4), (false, 5), (false, 6), (false, 7), (false, 8)]
  | 21, 6 => [(false, 0), (false, 1), (false, 2), (false, 3), (false, 4), (false, 5), (false, 6), (false, 7), (false, 8), (false, 9)]
  | 22, 6 => [(false, 0), (false, 1), (false, 2), (false, 3), (false, 4), (false, 5), (false, 6), (false, 7), (false, 8), (false, 9)]
  | 30, 5 => [(false, 0), (false, 1), (false, 2), (false, 3), (false, 4), (false, 5), (false, 6), (false, 7), (false, 8), (false, 9), (false, 10), (false, 11), (false, 12), (false, 13), (false, 14), (false, 15), (false, 16), (false, 19), (true, 17), (true, 18), (false, 20), (false, 21)]
  | 32, 5 => [(false, 0), (false, 1), (false, 2), (false, 3), (false, 4), (false, 5), (false, 6), (false, 7), (false, 8), (false, 9), (false, 10), (false, 11), (false, 12), (false, 13), (false, 16), (true, 14), (true, 15), (false, 17), (false, 18)]
  | 35, 4 => [(false, 0), (false, 1), (false, 2), (false, 3), (false, 4), (false, 5), (false, 6), (false, 7)]
  | 38, 6 => [(false, 0), (false, 1), (false, 2), (false, 3), (false, 4), (false, 5), (false, 6), (false, 7), (false, 8), (false, 9)]
  | 40, 7 => [(false, 0), (false, 1), (false, 2), (false, 3), (false, 4), (false, 5), (false, 6), (false, 7), (false, 8), (true, 9), (true, 10), (false, 11), (false, 12)]
  | 44, 7 => [(false, 0), (false, 1), (false, 2), (false, 3), (false, 4), (false, 5), (false, 6), (false, 7), (false, 8), (false, 9)]
  | 45, 3 => [(false, 0), (false, 1), (false, 2), (false, 3), (false, 4), (true, 5), (false, 6), (false, 7)]
  | 46, 5 => [(false, 0), (false, 1), (false, 2), (false, 3), (false, 4), (false, 5), (false, 6), (false, 7), (false, 8), (false, 9), (false, 10), (false, 11), (false, 12), (false, 13), (false, 14), (false, 15), (false, 16), (false, 17), (false, 18), (false, 19), (false, 20), (false, 21)]
  | 48, 1 => [(false, 0), (false, 1), (false, 2), (false, 4), (false, 5), (false, 7), (false, 8), (false, 9), (false, 10), (true, 3), (true, 6), (false, 11), (false, 12), (false, 13)]
  | 50, 1 => [(false, 0), (false, 1), (false, 2), (false, 4), (false, 5), (false, 7), (false, 8), (false, 9), (false, 10), (true, 3), (true, 6), (false, 11), (false, 12), (false, 13)]
  | 51, 1 => [(false, 0), (false, 1), (false, 2), (false, 3), (false, 4), (false, 5), (false, 6), (false, 7), (false, 8), (false, 9), (false, 10), (false, 11), (false, 12), (false, 13), (false, 14), (false, 15), (false, 16), (false, 17), (true, 18), (false, 19), (false, 20), (false, 21), (false, 22)]
  | 52, 1 => [(false, 0), (false, 1), (false, 2), (false, 3), (false, 4), (false, 5), (false, 6), (false, 7), (false, 8), (false, 9), (false, 10), (false, 11), (false, 12), (false, 13), (false, 14), (false, 15), (false, 16), (false, 17), (true, 18), (false, 19), (false, 20), (false, 21), (false, 22)]
  | 61, 6 => [(false, 0), (false, 1), (false, 2), (false, 3), (false, 4), (false, 5), (false, 6), (false, 7), (false, 8), (false, 9)]
  | 73, 6 => [(false, 0), (false, 1), (false, 2), (false, 3), (false, 4), (false, 5), (false, 6), (false, 7), (false, 8), (false, 9)]
  | 78, 9 => [(false, 0), (false, 1), (false, 2), (false, 3), (false, 4), (false, 5), (false, 6), (false, 8), (false, 9), (true, 7), (false, 10), (false, 11)]
  | 78, 11 => [(false, 0), (false, 1), (false, 2), (false, 3), (false, 4), (false, 5), (false, 6), (false, 8), (false, 9), (true, 7), (false, 10), (false, 11)]
  | 81, 9 => [(false, 0), (false, 1), (false, 2), (false, 3), (false, 4), (false, 5), (false, 6), (false, 8), (false, 9), (true, 7), (false, 10), (false, 11)]
  | 81, 11 => [(false, 0), (false, 1), (false, 2), (false, 3), (false, 4), (false, 5), (false, 6), (false, 8), (false, 9), (true, 7), (false, 10), (false, 11)]
  | 100, 3 => [(false, 0), (false, 1), (false, 2), (false, 3), (false, 4), (false, 5), (false, 6), (false, 7), (false, 8), (false, 9)]
  | 100, 5 => [(false, 0), (false, 1), (false, 2), (false, 3), (false, 4), (false, 5), (false, 6), (false, 7), (false, 8), (false, 9), (false, 10), (false, 11), (false, 12), (false, 13), (false, 14), (false, 15), (false, 16), (false, 17), (false, 18)]
  | 100, 7 => [(false, 0), (false, 1), (false, 2), (false, 3), (false, 4), (false, 5), (false, 6), (false, 7), (false, 8), (false, 9), (false, 10), (false, 11), (false, 12), (false, 13), (false, 14), (false, 15), (false, 16), (false, 17), (false, 18)]
  | 111, 10 => [(false, 0), (false, 1), (false, 2), (false, 3), (false, 4), (false, 5), (false, 6)]
  | 116, 4 => [(false, 0), (false, 1), (false, 2), (false, 3), (false, 4), (false, 5), (false, 6), (false, 7), (false, 8)]
  | 118, 6 => [(false, 0), (false, 1), (false, 2), (false, 3), (false, 4), (false, 5), (false, 6), (false, 7), (false, 8), (false, 9)]
  | 134, 3 => [(false, 0), (false, 1), (false, 2), (false, 3), (false, 4), (false, 5), (false, 6), (false, 7), (false, 8), (false, 9), (false, 10), (false, 11), (false, 12), (false, 13), (false, 14), (false, 15), (false, 16), (false, 17), (false, 18), (false, 19)]
  | 140, 6 => [(false, 0), (false, 1), (false, 2), (false, 3), (false, 4), (false, 5), (false, 6), (false, 7), (false, 8), (false, 9), (false, 10), (false, 11), (false, 12), (false, 13), (false, 14), (false, 15), (false, 16), (false, 17), (false, 18), (false, 19)]
  | 143, 13 => [(false, 0), (false, 1), (false, 2), (false, 3), (false, 4), (false, 5), (false, 6), (false, 7), (false, 8), (false, 9), (true, 10), (false, 11), (false, 12), (false, 13)]
  | 144, 12 => [(false, 0), (false, 1), (false, 2), (false, 3), (false, 4), (true, 5), (false, 6), (false, 7), (false, 8), (false, 9), (false, 10), (false, 11), (false, 12), (false, 13), (false, 14), (false, 15), (false, 16), (false, 17), (false, 18), (false, 19)]
  | 167, 4 => [(false, 0), (false, 1), (false, 2), (false, 3), (false, 4), (false, 5)]
  | _, _ => []
def okT : List Nat := [3, 4, 5, 6, 7, 8, 9, 10, 11, 12, 13, 14, 15, 16, 17, 18, 19, 20, 21, 22, 23, 24, 25, 26, 27, 28, 29, 30, 31, 32, 33, 34, 35, 36, 37, 38, 39, 40, 41, 42, 43, 44, 45, 46, 47, 48, 49, 50, 51, 52, 53, 54, 55, 56, 57, 58, 59, 60, 61, 62, 63, 64, 65, 66, 67, 68, 69, 70, 71, 72, 73, 74, 75, 76, 77, 78, 79, 80, 81, 82, 83, 84, 85, 86, 87, 88, 89, 90, 91, 92, 93, 94, 95, 96, 97, 98, 99, 100, 101, 102, 103, 104, 105, 106, 107, 108, 109, 110, 111, 112, 113, 114, 115, 116, 117, 118, 119, 120, 121, 122, 123, 124, 125, 126, 127, 128, 129, 130, 131, 132, 133, 134, 135, 136, 137, 138, 139, 140, 141, 142, 143, 144, 145, 146, 147, 148, 149, 150, 151, 154, 155, 156, 157, 158, 159, 160, 161, 162, 163, 166, 167]
def treeT : List Nat := []
def mdT : Nat → List Mode
  | 24 => [.«mut», .ro]
  | 25 => [.«mut», .ro]
  | 26 => [.«mut», .ro]
  | 27 => [.«mut», .ro]
  | 62 => [.«mut», .ro]
  | 96 => [.«mut», .ro]
  | 152 => [.«mut»]
  | 153 => [.give]
  | _ => []
noncomputable def E : Env := { P := Go.Proofs.Tryz.prog, md := mdT, keep := keepT, plan := planT, ok := fun f => okT.contains f, tree := fun f => treeT.contains f }
theorem mixed : E.P.follows .mixedOrders = true := by kernel_rfl
/-- One function's check. -/
def good1 (P : Program) (plan : Nat → Nat → List (Bool × Nat)) (md : Nat → List Mode) (f : Nat) : Bool :=
  match P.funcs[f]? with
  | some fn => (match fn.body with | some c => codeOK (plan f) c && codePin (mutSlots 0 (md f)) c | none => true) && !(fn.name == "runtime.NumGoroutine")
  | none => true
theorem good1_ok {E : Env} {l : List Nat} (ho : ∀ f, E.ok f = true → f ∈ l) (h : l.all (good1 E.P E.plan E.md) = true) : Sound E := by
  intro f hf fn c hfn hc
  have h1 := List.all_eq_true.1 h f (ho f hf)
  simp -implicitDefEqProofs only [good1, hfn, hc, Bool.and_eq_true, Bool.not_eq_true', beq_eq_false_iff_ne, ne_eq] at h1
  exact ⟨h1.1.1, h1.2, h1.1.2⟩
theorem sound : Sound E := good1_ok (l := okT) (fun f hf => by simpa [E] using hf) (by kernel_rfl)
/-- Functions of the library that are not entered. -/
def extT : Nat → Option (List AV → List (List AV) → Option (AV × List (List AV)))
  | 152 => some sortExt
  | 153 => some compactExt
  | _ => none
abbrev noExt : Nat → Option (List AV → List (List AV) → Option (AV × List (List AV))) := extT
theorem ext_152 : noExt 152 = some sortExt := rfl
theorem ext_153 : noExt 153 = some compactExt := rfl
abbrev nSort : Nat := 152
abbrev nCompact : Nat := 153
abbrev tBool : Nat := 4
theorem tagBool : tagOf E.P 4 = .bool := by kernel_rfl
theorem one_ne : (1 = 0) = False := by simp
theorem ti3 : tiOf E.P 3 = some { tag := Tag.int IntKind.i64, agg := false, size := 1, bytes := 8, zero := some (Value.int IntKind.i64 0), elem := 0, fields := [], eqs := none } := by kernel_rfl
theorem ti4 : tiOf E.P 4 = some { tag := Tag.bool, agg := false, size := 1, bytes := 1, zero := some (Value.bool false), elem := 0, fields := [], eqs := none } := by kernel_rfl
theorem ti22 : tiOf E.P 22 = some { tag := Tag.slice, agg := false, size := 1, bytes := 24, zero := some (Value.slice none 0 0), elem := 97, fields := [], eqs := none } := by kernel_rfl
theorem sl22 : isSliceT E.P 22 = true := by kernel_rfl
theorem ti23 : tiOf E.P 23 = some { tag := Tag.slice, agg := false, size := 1, bytes := 24, zero := some (Value.slice none 0 0), elem := 101, fields := [], eqs := none } := by kernel_rfl
theorem sl23 : isSliceT E.P 23 = true := by kernel_rfl
theorem ti24 : tiOf E.P 24 = some { tag := Tag.slice, agg := false, size := 1, bytes := 24, zero := some (Value.slice none 0 0), elem := 130, fields := [], eqs := none } := by kernel_rfl
theorem sl24 : isSliceT E.P 24 = true := by kernel_rfl
theorem ti26 : tiOf E.P 26 = some { tag := Tag.struct, agg := true, size := 2, bytes := 32, zero := some (Value.agg #[Value.int IntKind.i64 0, Value.slice none 0 0]), elem := 0, fields := [(0, 1, false), (1, 1, false)], eqs := none } := by kernel_rfl
theorem is26 : isStructT E.P 26 = true := by kernel_rfl
theorem ti28 : tiOf E.P 28 = some { tag := Tag.struct, agg := true, size := 6, bytes := 48, zero := some (Value.agg #[Value.int IntKind.i64 0, Value.int IntKind.i64 0, Value.int IntKind.i64 0, Value.int IntKind.i64 0, Value.int IntKind.i64 0, Value.int IntKind.i64 0]), elem := 0, fields := [(0, 1, false), (1, 1, false), (2, 1, false), (3, 1, false), (4, 1, false), (5, 1, false)], eqs := some [0, 0, 0, 0, 0, 0] } := by kernel_rfl
theorem is28 : isStructT E.P 28 = true := by kernel_rfl
theorem ti32 : tiOf E.P 32 = some { tag := Tag.slice, agg := false, size := 1, bytes := 24, zero := some (Value.slice none 0 0), elem := 3, fields := [], eqs := none } := by kernel_rfl
theorem sl32 : isSliceT E.P 32 = true := by kernel_rfl
theorem ti34 : tiOf E.P 34 = some { tag := Tag.slice, agg := false, size := 1, bytes := 24, zero := some (Value.slice none 0 0), elem := 95, fields := [], eqs := none } := by kernel_rfl
theorem sl34 : isSliceT E.P 34 = true := by kernel_rfl
theorem ti36 : tiOf E.P 36 = some { tag := Tag.slice, agg := false, size := 1, bytes := 24, zero := some (Value.slice none 0 0), elem := 99, fields := [], eqs := none } := by kernel_rfl
theorem sl36 : isSliceT E.P 36 = true := by kernel_rfl
theorem ti38 : tiOf E.P 38 = some { tag := Tag.slice, agg := false, size := 1, bytes := 24, zero := some (Value.slice none 0 0), elem := 123, fields := [], eqs := none } := by kernel_rfl
theorem sl38 : isSliceT E.P 38 = true := by kernel_rfl
theorem ti40 : tiOf E.P 40 = some { tag := Tag.struct, agg := true, size := 2, bytes := 32, zero := some (Value.agg #[Value.int IntKind.i64 0, Value.slice none 0 0]), elem := 0, fields := [(0, 1, false), (1, 1, false)], eqs := none } := by kernel_rfl
theorem is40 : isStructT E.P 40 = true := by kernel_rfl
theorem ti42 : tiOf E.P 42 = some { tag := Tag.struct, agg := true, size := 6, bytes := 48, zero := some (Value.agg #[Value.int IntKind.i64 0, Value.int IntKind.i64 0, Value.int IntKind.i64 0, Value.int IntKind.i64 0, Value.int IntKind.i64 0, Value.int IntKind.i64 0]), elem := 0, fields := [(0, 1, false), (1, 1, false), (2, 1, false), (3, 1, false), (4, 1, false), (5, 1, false)], eqs := some [0, 0, 0, 0, 0, 0] } := by kernel_rfl
theorem is42 : isStructT E.P 42 = true := by kernel_rfl
theorem ti53 : tiOf E.P 53 = some { tag := Tag.slice, agg := false, size := 1, bytes := 24, zero := some (Value.slice none 0 0), elem := 55, fields := [], eqs := none } := by kernel_rfl
theorem sl53 : isSliceT E.P 53 = true := by kernel_rfl
theorem ti55 : tiOf E.P 55 = some { tag := Tag.struct, agg := true, size := 4, bytes := 48, zero := some (Value.agg #[Value.int IntKind.i64 0, Value.int IntKind.i64 0, Value.int IntKind.i64 0, Value.slice none 0 0]), elem := 0, fields := [(0, 1, false), (1, 1, false), (2, 1, false), (3, 1, false)], eqs := none } := by kernel_rfl
theorem is55 : isStructT E.P 55 = true := by kernel_rfl
theorem ti58 : tiOf E.P 58 = some { tag := Tag.slice, agg := false, size := 1, bytes := 24, zero := some (Value.slice none 0 0), elem := 60, fields := [], eqs := none } := by kernel_rfl
theorem sl58 : isSliceT E.P 58 = true := by kernel_rfl
theorem ti60 : tiOf E.P 60 = some { tag := Tag.struct, agg := true, size := 4, bytes := 48, zero := some (Value.agg #[Value.int IntKind.i64 0, Value.int IntKind.i64 0, Value.int IntKind.i64 0, Value.slice none 0 0]), elem := 0, fields := [(0, 1, false), (1, 1, false), (2, 1, false), (3, 1, false)], eqs := none } := by kernel_rfl
theorem is60 : isStructT E.P 60 = true := by kernel_rfl
theorem ti64 : tiOf E.P 64 = some { tag := Tag.slice, agg := false, size := 1, bytes := 24, zero := some (Value.slice none 0 0), elem := 28, fields := [], eqs := none } := by kernel_rfl
theorem sl64 : isSliceT E.P 64 = true := by kernel_rfl
theorem ti67 : tiOf E.P 67 = some { tag := Tag.slice, agg := false, size := 1, bytes := 24, zero := some (Value.slice none 0 0), elem := 42, fields := [], eqs := none } := by kernel_rfl
theorem sl67 : isSliceT E.P 67 = true := by kernel_rfl
theorem ti71 : tiOf E.P 71 = some { tag := Tag.slice, agg := false, size := 1, bytes := 24, zero := some (Value.slice none 0 0), elem := 158, fields := [], eqs := none } := by kernel_rfl
theorem sl71 : isSliceT E.P 71 = true := by kernel_rfl
theorem ti73 : tiOf E.P 73 = some { tag := Tag.struct, agg := true, size := 3, bytes := 40, zero := some (Value.agg #[Value.int IntKind.i64 0, Value.slice none 0 0, Value.int IntKind.i64 0]), elem := 0, fields := [(0, 1, false), (1, 1, false), (2, 1, false)], eqs := none } := by kernel_rfl
theorem is73 : isStructT E.P 73 = true := by kernel_rfl
theorem ti75 : tiOf E.P 75 = some { tag := Tag.struct, agg := true, size := 5, bytes := 72, zero := some (Value.agg #[Value.slice none 0 0, Value.int IntKind.i64 0, Value.slice none 0 0, Value.int IntKind.i64 0, Value.int IntKind.i64 0]), elem := 0, fields := [(0, 1, false), (1, 3, true), (4, 1, false)], eqs := none } := by kernel_rfl
theorem is75 : isStructT E.P 75 = true := by kernel_rfl
theorem ti78 : tiOf E.P 78 = some { tag := Tag.slice, agg := false, size := 1, bytes := 24, zero := some (Value.slice none 0 0), elem := 145, fields := [], eqs := none } := by kernel_rfl
theorem sl78 : isSliceT E.P 78 = true := by kernel_rfl
theorem ti80 : tiOf E.P 80 = some { tag := Tag.struct, agg := true, size := 3, bytes := 40, zero := some (Value.agg #[Value.int IntKind.i64 0, Value.slice none 0 0, Value.int IntKind.i64 0]), elem := 0, fields := [(0, 1, false), (1, 1, false), (2, 1, false)], eqs := none } := by kernel_rfl
theorem is80 : isStructT E.P 80 = true := by kernel_rfl
theorem ti82 : tiOf E.P 82 = some { tag := Tag.struct, agg := true, size := 5, bytes := 72, zero := some (Value.agg #[Value.slice none 0 0, Value.int IntKind.i64 0, Value.slice none 0 0, Value.int IntKind.i64 0, Value.int IntKind.i64 0]), elem := 0, fields := [(0, 1, false), (1, 3, true), (4, 1, false)], eqs := none } := by kernel_rfl
theorem is82 : isStructT E.P 82 = true := by kernel_rfl
theorem ti95 : tiOf E.P 95 = some { tag := Tag.struct, agg := true, size := 2, bytes := 16, zero := some (Value.agg #[Value.int IntKind.i64 0, Value.int IntKind.i64 0]), elem := 0, fields := [(0, 1, false), (1, 1, false)], eqs := some [0, 0] } := by kernel_rfl
theorem is95 : isStructT E.P 95 = true := by kernel_rfl
theorem ti97 : tiOf E.P 97 = some { tag := Tag.struct, agg := true, size := 2, bytes := 16, zero := some (Value.agg #[Value.int IntKind.i64 0, Value.int IntKind.i64 0]), elem := 0, fields := [(0, 1, false), (1, 1, false)], eqs := some [0, 0] } := by kernel_rfl
theorem is97 : isStructT E.P 97 = true := by kernel_rfl
theorem ti99 : tiOf E.P 99 = some { tag := Tag.struct, agg := true, size := 6, bytes := 48, zero := some (Value.agg #[Value.int IntKind.i64 0, Value.int IntKind.i64 0, Value.int IntKind.i64 0, Value.int IntKind.i64 0, Value.int IntKind.i64 0, Value.int IntKind.i64 0]), elem := 0, fields := [(0, 1, false), (1, 1, false), (2, 1, false), (3, 1, false), (4, 1, false), (5, 1, false)], eqs := some [0, 0, 0, 0, 0, 0] } := by kernel_rfl
theorem is99 : isStructT E.P 99 = true := by kernel_rfl
theorem ti101 : tiOf E.P 101 = some { tag := Tag.struct, agg := true, size := 6, bytes := 48, zero := some (Value.agg #[Value.int IntKind.i64 0, Value.int IntKind.i64 0, Value.int IntKind.i64 0, Value.int IntKind.i64 0, Value.int IntKind.i64 0, Value.int IntKind.i64 0]), elem := 0, fields := [(0, 1, false), (1, 1, false), (2, 1, false), (3, 1, false), (4, 1, false), (5, 1, false)], eqs := some [0, 0, 0, 0, 0, 0] } := by kernel_rfl
theorem is101 : isStructT E.P 101 = true := by kernel_rfl
theorem ti117 : tiOf E.P 117 = some { tag := Tag.slice, agg := false, size := 1, bytes := 24, zero := some (Value.slice none 0 0), elem := 4, fields := [], eqs := none } := by kernel_rfl
theorem sl117 : isSliceT E.P 117 = true := by kernel_rfl
theorem ti123 : tiOf E.P 123 = some { tag := Tag.struct, agg := true, size := 7, bytes := 72, zero := some (Value.agg #[Value.int IntKind.i64 0, Value.int IntKind.i64 0, Value.int IntKind.i64 0, Value.int IntKind.i64 0, Value.int IntKind.i64 0, Value.int IntKind.i64 0, Value.slice none 0 0]), elem := 0, fields := [(0, 1, false), (1, 1, false), (2, 1, false), (3, 4, true)], eqs := none } := by kernel_rfl
theorem is123 : isStructT E.P 123 = true := by kernel_rfl
theorem ti130 : tiOf E.P 130 = some { tag := Tag.struct, agg := true, size := 7, bytes := 72, zero := some (Value.agg #[Value.int IntKind.i64 0, Value.int IntKind.i64 0, Value.int IntKind.i64 0, Value.int IntKind.i64 0, Value.int IntKind.i64 0, Value.int IntKind.i64 0, Value.slice none 0 0]), elem := 0, fields := [(0, 1, false), (1, 1, false), (2, 1, false), (3, 4, true)], eqs := none } := by kernel_rfl
theorem is130 : isStructT E.P 130 = true := by kernel_rfl
theorem ti145 : tiOf E.P 145 = some { tag := Tag.struct, agg := true, size := 3, bytes := 24, zero := some (Value.agg #[Value.int IntKind.i64 0, Value.int IntKind.i64 0, Value.int IntKind.i64 0]), elem := 0, fields := [(0, 1, false), (1, 1, false), (2, 1, false)], eqs := some [0, 0, 0] } := by kernel_rfl
theorem is145 : isStructT E.P 145 = true := by kernel_rfl
theorem ti158 : tiOf E.P 158 = some { tag := Tag.struct, agg := true, size := 3, bytes := 24, zero := some (Value.agg #[Value.int IntKind.i64 0, Value.int IntKind.i64 0, Value.int IntKind.i64 0]), elem := 0, fields := [(0, 1, false), (1, 1, false), (2, 1, false)], eqs := some [0, 0, 0] } := by kernel_rfl
theorem is158 : isStructT E.P 158 = true := by kernel_rfl
theorem ti169 : tiOf E.P 169 = some { tag := Tag.array 6, agg := true, size := 6, bytes := 6, zero := some (Value.agg #[Value.bool false, Value.bool false, Value.bool false, Value.bool false, Value.bool false, Value.bool false]), elem := 4, fields := [], eqs := none } := by kernel_rfl
theorem na169 : isSliceT E.P 169 = false := by kernel_rfl
theorem ar169 : isArrayT E.P 169 = some 6 := by kernel_rfl
theorem ns169 : isStructT E.P 169 = false := by kernel_rfl
theorem plan_3_11 : E.plan 3 11 = [(false, 0), (false, 2), (false, 4), (false, 6), (true, 1), (true, 3), (true, 5), (false, 7), (false, 8), (false, 9)] := rfl
theorem plan_3_15 : E.plan 3 15 = [(false, 0), (false, 1), (false, 2), (false, 3), (true, 4), (false, 5), (false, 6)] := rfl
theorem plan_3_22 : E.plan 3 22 = [(false, 0), (false, 1), (true, 2), (false, 3), (false, 4)] := rfl
theorem plan_3_38 : E.plan 3 38 = [(false, 0), (false, 2), (false, 4), (false, 6), (true, 1), (true, 3), (true, 5), (false, 7), (false, 8), (false, 9)] := rfl
theorem plan_4_11 : E.plan 4 11 = [(false, 0), (false, 2), (false, 4), (false, 6), (false, 8), (true, 1), (true, 3), (true, 5), (true, 7), (false, 9), (false, 10)] := rfl
theorem plan_4_15 : E.plan 4 15 = [(false, 0), (false, 1), (false, 2), (false, 3), (false, 5), (true, 4), (false, 6), (false, 7)] := rfl
theorem plan_4_22 : E.plan 4 22 = [(false, 0), (false, 1), (true, 2), (false, 3), (false, 4)] := rfl
theorem plan_5_22 : E.plan 5 22 = [(false, 0), (false, 1), (true, 2), (false, 3), (false, 4)] := rfl
theorem plan_6_11 : E.plan 6 11 = [(false, 0), (false, 2), (false, 4), (false, 6), (true, 1), (true, 3), (true, 5), (false, 7), (false, 8), (false, 9)] := rfl
theorem plan_6_15 : E.plan 6 15 = [(false, 0), (false, 1), (false, 2), (false, 3), (true, 4), (false, 5), (false, 6)] := rfl
theorem plan_6_22 : E.plan 6 22 = [(false, 0), (false, 1), (true, 2), (false, 3), (false, 4)] := rfl
theorem plan_7_11 : E.plan 7 11 = [(false, 0), (false, 2), (false, 4), (false, 6), (true, 1), (true, 3), (true, 5), (false, 7), (false, 8), (false, 9)] := rfl
theorem plan_7_15 : E.plan 7 15 = [(false, 0), (false, 1), (false, 2), (false, 3), (true, 4), (false, 5), (false, 6)] := rfl
theorem plan_7_22 : E.plan 7 22 = [(false, 0), (false, 1), (true, 2), (false, 3), (false, 4)] := rfl
theorem plan_8_11 : E.plan 8 11 = [(false, 0), (false, 2), (false, 4), (false, 6), (true, 1), (true, 3), (true, 5), (false, 7), (false, 8), (false, 9)] := rfl
theorem plan_8_15 : E.plan 8 15 = [(false, 0), (false, 1), (false, 2), (false, 3), (true, 4), (false, 5), (false, 6)] := rfl
theorem plan_8_22 : E.plan 8 22 = [(false, 0), (false, 1), (true, 2), (false, 3), (false, 4)] := rfl
theorem plan_8_38 : E.plan 8 38 = [(false, 0), (false, 2), (false, 4), (false, 6), (true, 1), (true, 3), (true, 5), (false, 7), (false, 8), (false, 9)] := rfl
theorem plan_9_13 : E.plan 9 13 = [(false, 0), (false, 2), (false, 4), (false, 6), (false, 8), (true, 1), (true, 3), (true, 5), (true, 7), (false, 9), (false, 10), (false, 11)] := rfl
theorem plan_9_18 : E.plan 9 18 = [(false, 0), (false, 1), (false, 2), (false, 3), (false, 5), (true, 4), (false, 6), (false, 7)] := rfl
theorem plan_9_25 : E.plan 9 25 = [(false, 0), (false, 1), (true, 2), (false, 3), (false, 4)] := rfl
theorem plan_10_13 : E.plan 10 13 = [(false, 0), (false, 2), (false, 4), (false, 6), (false, 8), (false, 10), (true, 1), (true, 3), (true, 5), (true, 7), (true, 9), (false, 11), (false, 12)] := rfl
theorem plan_10_18 : E.plan 10 18 = [(false, 0), (false, 1), (false, 2), (false, 3), (false, 5), (false, 6), (true, 4), (false, 7), (false, 8)] := rfl
theorem plan_10_25 : E.plan 10 25 = [(false, 0), (false, 1), (true, 2), (false, 3), (false, 4)] := rfl
theorem plan_20_6 : E.plan 20 6 = [(false, 0), (false, 1), (false, 2), (false, 3), (false, 4), (false, 5), (false, 6), (false, 7), (false, 8)] := rfl
theorem plan_21_6 : E.plan 21 6 = [(false, 0), (false, 1), (false, 2), (false, 3), (false, 4), (false, 5), (false, 6), (false, 7), (false, 8), (false, 9)] := rfl
theorem plan_22_6 : E.plan 22 6 = [(false, 0), (false, 1), (false, 2), (false, 3), (false, 4), (false, 5), (false, 6), (false, 7), (false, 8), (false, 9)] := rfl
theorem plan_30_5 : E.plan 30 5 = [(false, 0), (false, 1), (false, 2), (false, 3), (false, 4), (false, 5), (false, 6), (false, 7), (false, 8), (false, 9), (false, 10), (false, 11), (false, 12), (false, 13), (false, 14), (false, 15), (false, 16), (false, 19), (true, 17), (true, 18), (false, 20), (false, 21)] := rfl
theorem plan_32_5 : E.plan 32 5 = [(false, 0), (false, 1), (false, 2), (false, 3), (false, 4), (false, 5), (false, 6), (false, 7), (false, 8), (false, 9), (false, 10), (false, 11), (false, 12), (false, 13), (false, 16), (true, 14), (true, 15), (false, 17), (false, 18)] := rfl
theorem plan_35_4 : E.plan 35 4 = [(false, 0), (false, 1), (false, 2), (false, 3), (false, 4), (false, 5), (false, 6), (false, 7)] := rfl
theorem plan_38_6 : E.plan 38 6 = [(false, 0), (false, 1), (false, 2), (false, 3), (false, 4), (false, 5), (false, 6), (false, 7), (false, 8), (false, 9)] := rfl
theorem plan_40_7 : E.plan 40 7 = [(false, 0), (false, 1), (false, 2), (false, 3), (false, 4), (false, 5), (false, 6), (false, 7), (false, 8), (true, 9), (true, 10), (false, 11), (false, 12)] := rfl
theorem plan_44_7 : E.plan 44 7 = [(false, 0), (false, 1), (false, 2), (false, 3), (false, 4), (false, 5), (false, 6), (false, 7), (false, 8), (false, 9)] := rfl
theorem plan_45_3 : E.plan 45 3 = [(false, 0), (false, 1), (false, 2), (false, 3), (false, 4), (true, 5), (false, 6), (false, 7)] := rfl
theorem plan_46_5 : E.plan 46 5 = [(false, 0), (false, 1), (false, 2), (false, 3), (false, 4), (false, 5), (false, 6), (false, 7), (false, 8), (false, 9), (false, 10), (false, 11), (false, 12), (false, 13), (false, 14), (false, 15), (false, 16), (false, 17), (false, 18), (false, 19), (false, 20), (false, 21)] := rfl
theorem plan_48_1 : E.plan 48 1 = [(false, 0), (false, 1), (false, 2), (false, 4), (false, 5), (false, 7), (false, 8), (false, 9), (false, 10), (true, 3), (true, 6), (false, 11), (false, 12), (false, 13)] := rfl
theorem plan_50_1 : E.plan 50 1 = [(false, 0), (false, 1), (false, 2), (false, 4), (false, 5), (false, 7), (false, 8), (false, 9), (false, 10), (true, 3), (true, 6), (false, 11), (false, 12), (false, 13)] := rfl
theorem plan_51_1 : E.plan 51 1 = [(false, 0), (false, 1), (false, 2), (false, 3), (false, 4), (false, 5), (false, 6), (false, 7), (false, 8), (false, 9), (false, 10), (false, 11), (false, 12), (false, 13), (false, 14), (false, 15), (false, 16), (false, 17), (true, 18), (false, 19), (false, 20), (false, 21), (false, 22)] := rfl
theorem plan_52_1 : E.plan 52 1 = [(false, 0), (false, 1), (false, 2), (false, 3), (false, 4), (false, 5), (false, 6), (false, 7), (false, 8), (false, 9), (false, 10), (false, 11), (false, 12), (false, 13), (false, 14), (false, 15), (false, 16), (false, 17), (true, 18), (false, 19), (false, 20), (false, 21), (false, 22)] := rfl
theorem plan_61_6 : E.plan 61 6 = [(false, 0), (false, 1), (false, 2), (false, 3), (false, 4), (false, 5), (false, 6), (false, 7), (false, 8), (false, 9)] := rfl
theorem plan_73_6 : E.plan 73 6 = [(false, 0), (false, 1), (false, 2), (false, 3), (false, 4), (false, 5), (false, 6), (false, 7), (false, 8), (false, 9)] := rfl
theorem plan_78_9 : E.plan 78 9 = [(false, 0), (false, 1), (false, 2), (false, 3), (false, 4), (false, 5), (false, 6), (false, 8), (false, 9), (true, 7), (false, 10), (false, 11)] := rfl
theorem plan_78_11 : E.plan 78 11 = [(false, 0), (false, 1), (false, 2), (false, 3), (false, 4), (false, 5), (false, 6), (false, 8), (false, 9), (true, 7), (false, 10), (false, 11)] := rfl
theorem plan_81_9 : E.plan 81 9 = [(false, 0), (false, 1), (false, 2), (false, 3), (false, 4), (false, 5), (false, 6), (false, 8), (false, 9), (true, 7), (false, 10), (false, 11)] := rfl
theorem plan_81_11 : E.plan 81 11 = [(false, 0), (false, 1), (false, 2), (false, 3), (false, 4), (false, 5), (false, 6), (false, 8), (false, 9), (true, 7), (false, 10), (false, 11)] := rfl
theorem plan_100_3 : E.plan 100 3 = [(false, 0), (false, 1), (false, 2), (false, 3), (false, 4), (false, 5), (false, 6), (false, 7), (false, 8), (false, 9)] := rfl
theorem plan_100_5 : E.plan 100 5 = [(false, 0), (false, 1), (false, 2), (false, 3), (false, 4), (false, 5), (false, 6), (false, 7), (false, 8), (false, 9), (false, 10), (false, 11), (false, 12), (false, 13), (false, 14), (false, 15), (false, 16), (false, 17), (false, 18)] := rfl
theorem plan_100_7 : E.plan 100 7 = [(false, 0), (false, 1), (false, 2), (false, 3), (false, 4), (false, 5), (false, 6), (false, 7), (false, 8), (false, 9), (false, 10), (false, 11), (false, 12), (false, 13), (false, 14), (false, 15), (false, 16), (false, 17), (false, 18)] := rfl
theorem plan_111_10 : E.plan 111 10 = [(false, 0), (false, 1), (false, 2), (false, 3), (false, 4), (false, 5), (false, 6)] := rfl
theorem plan_116_4 : E.plan 116 4 = [(false, 0), (false, 1), (false, 2), (false, 3), (false, 4), (false, 5), (false, 6), (false, 7), (false, 8)] := rfl
theorem plan_118_6 : E.plan 118 6 = [(false, 0), (false, 1), (false, 2), (false, 3), (false, 4), (false, 5), (false, 6), (false, 7), (false, 8), (false, 9)] := rfl
theorem plan_134_3 : E.plan 134 3 = [(false, 0), (false, 1), (false, 2), (false, 3), (false, 4), (false, 5), (false, 6), (false, 7), (false, 8), (false, 9), (false, 10), (false, 11), (false, 12), (false, 13), (false, 14), (false, 15), (false, 16), (false, 17), (false, 18), (false, 19)] := rfl
theorem plan_140_6 : E.plan 140 6 = [(false, 0), (false, 1), (false, 2), (false, 3), (false, 4), (false, 5), (false, 6), (false, 7), (false, 8), (false, 9), (false, 10), (false, 11), (false, 12), (false, 13), (false, 14), (false, 15), (false, 16), (false, 17), (false, 18), (false, 19)] := rfl
theorem plan_143_13 : E.plan 143 13 = [(false, 0), (false, 1), (false, 2), (false, 3), (false, 4), (false, 5), (false, 6), (false, 7), (false, 8), (false, 9), (true, 10), (false, 11), (false, 12), (false, 13)] := rfl
theorem plan_144_12 : E.plan 144 12 = [(false, 0), (false, 1), (false, 2), (false, 3), (false, 4), (true, 5), (false, 6), (false, 7), (false, 8), (false, 9), (false, 10), (false, 11), (false, 12), (false, 13), (false, 14), (false, 15), (false, 16), (false, 17), (false, 18), (false, 19)] := rfl
theorem plan_167_4 : E.plan 167 4 = [(false, 0), (false, 1), (false, 2), (false, 3), (false, 4), (false, 5)] := rfl
theorem keep_14_10 : E.keep 14 10 = [0, 1, 6, 7, 9, 11, 12] := rfl
theorem keep_14_7 : E.keep 14 7 = [0, 1, 6, 7, 9, 11] := rfl
theorem keep_14_3 : E.keep 14 3 = [0, 1, 6, 7, 9, 10] := rfl
theorem keep_15_3 : E.keep 15 3 = [0, 3, 4] := rfl
theorem keep_16_3 : E.keep 16 3 = [0, 3, 4] := rfl
theorem keep_19_9 : E.keep 19 9 = [0, 1, 6, 7, 9, 11, 12] := rfl
theorem keep_19_7 : E.keep 19 7 = [0, 1, 6, 7, 9] := rfl
theorem keep_19_3 : E.keep 19 3 = [0, 1, 6, 7, 9, 16, 17] := rfl
theorem keep_20_4 : E.keep 20 4 = [0, 1, 5] := rfl
theorem keep_21_4 : E.keep 21 4 = [0, 1, 5] := rfl
theorem keep_22_4 : E.keep 22 4 = [0, 1, 5] := rfl
theorem keep_24_2 : E.keep 24 2 = [0, 1, 5] := rfl
theorem keep_25_2 : E.keep 25 2 = [0, 1, 5] := rfl
theorem keep_27_2 : E.keep 27 2 = [0, 1, 5] := rfl
theorem keep_28_2 : E.keep 28 2 = [0, 1, 5] := rfl
theorem keep_30_5 : E.keep 30 5 = [0, 1, 4, 7, 8, 11, 12] := rfl
theorem keep_32_5 : E.keep 32 5 = [0, 1, 4, 7, 8, 11, 12] := rfl
theorem keep_35_2 : E.keep 35 2 = [1, 2, 3, 4, 9] := rfl
theorem keep_36_3 : E.keep 36 3 = [0, 3, 4] := rfl
theorem keep_38_4 : E.keep 38 4 = [0, 1, 5] := rfl
theorem keep_40_5 : E.keep 40 5 = [0, 1, 6, 7, 9, 10] := rfl
theorem keep_42_3 : E.keep 42 3 = [0, 1, 6, 7, 9, 14, 15, 16] := rfl
theorem keep_44_5 : E.keep 44 5 = [6, 9, 10] := rfl
theorem keep_46_3 : E.keep 46 3 = [0, 1, 6, 7, 9, 10] := rfl
theorem keep_47_3 : E.keep 47 3 = [0, 1, 7, 9, 14, 15, 16] := rfl
theorem keep_49_3 : E.keep 49 3 = [0, 3, 4] := rfl
theorem keep_53_5 : E.keep 53 5 = [0, 1, 5] := rfl
theorem keep_54_3 : E.keep 54 3 = [0, 1, 5, 6] := rfl
theorem keep_57_3 : E.keep 57 3 = [0, 3, 4] := rfl
theorem keep_58_3 : E.keep 58 3 = [1, 5, 9, 10, 11] := rfl
theorem keep_61_4 : E.keep 61 4 = [0, 1, 5] := rfl
theorem keep_62_2 : E.keep 62 2 = [0, 1, 5] := rfl
theorem keep_63_5 : E.keep 63 5 = [0, 1, 5] := rfl
theorem keep_68_3 : E.keep 68 3 = [0, 3, 4] := rfl
theorem keep_73_4 : E.keep 73 4 = [0, 1, 5] := rfl
theorem keep_79_4 : E.keep 79 4 = [1, 2, 5] := rfl
theorem keep_84_2 : E.keep 84 2 = [1, 3] := rfl
theorem keep_86_3 : E.keep 86 3 = [2, 5, 8, 9, 10] := rfl
theorem keep_89_3 : E.keep 89 3 = [0, 1, 5, 6] := rfl
theorem keep_90_3 : E.keep 90 3 = [1, 5, 9, 10, 11] := rfl
theorem keep_91_2 : E.keep 91 2 = [0, 1, 5] := rfl
theorem keep_96_2 : E.keep 96 2 = [0, 1, 5] := rfl
theorem keep_106_2 : E.keep 106 2 = [0, 1, 7, 8] := rfl
theorem keep_109_2 : E.keep 109 2 = [0, 1, 2, 3, 4, 5, 13] := rfl
theorem keep_110_3 : E.keep 110 3 = [0, 1, 2, 3, 4, 11, 12] := rfl
theorem keep_111_8 : E.keep 111 8 = [1, 3, 4, 5] := rfl
theorem keep_111_2 : E.keep 111 2 = [1, 3] := rfl
theorem keep_112_3 : E.keep 112 3 = [0, 3, 4] := rfl
theorem keep_115_3 : E.keep 115 3 = [1, 2, 3, 4, 11, 14, 15, 16] := rfl
theorem keep_116_2 : E.keep 116 2 = [1, 6, 7, 8] := rfl
theorem keep_117_2 : E.keep 117 2 = [1, 2, 5] := rfl
theorem keep_118_4 : E.keep 118 4 = [0, 1, 5] := rfl
theorem keep_123_2 : E.keep 123 2 = [0, 1, 7, 8] := rfl
theorem keep_125_3 : E.keep 125 3 = [1, 2, 5] := rfl
theorem keep_126_4 : E.keep 126 4 = [1, 3] := rfl
theorem keep_129_3 : E.keep 129 3 = [3, 7, 8, 9] := rfl
theorem keep_131_13 : E.keep 131 13 = [11, 15, 16] := rfl
theorem keep_131_8 : E.keep 131 8 = [0, 1, 2, 3, 4, 11, 12, 13, 14] := rfl
theorem keep_131_3 : E.keep 131 3 = [0, 1, 2, 3, 4, 11, 12] := rfl
theorem keep_136_3 : E.keep 136 3 = [0, 2, 3, 4, 11, 15, 16, 17] := rfl
theorem keep_137_2 : E.keep 137 2 = [0, 1, 7, 8] := rfl
theorem keep_140_4 : E.keep 140 4 = [2, 3, 31, 32, 33] := rfl
theorem keep_142_2 : E.keep 142 2 = [0, 1, 7, 8] := rfl
theorem keep_147_15 : E.keep 147 15 = [5, 6, 9] := rfl
theorem keep_147_10 : E.keep 147 10 = [0, 5, 6, 7, 8] := rfl
theorem keep_147_7 : E.keep 147 7 = [0, 5, 6, 7] := rfl
theorem keep_151_5 : E.keep 151 5 = [1, 5, 15, 16] := rfl
theorem keep_160_2 : E.keep 160 2 = [0, 1, 7, 8] := rfl
theorem keep_163_7 : E.keep 163 7 = [0, 4, 5, 6, 7, 21, 22, 23] := rfl
theorem keep_163_3 : E.keep 163 3 = [0, 4, 5, 6] := rfl
theorem keep_167_2 : E.keep 167 2 = [0, 3, 7, 8] := rfl
theorem md_3 : E.md 3 = [] := rfl
theorem md_4 : E.md 4 = [] := rfl
theorem md_5 : E.md 5 = [] := rfl
theorem md_6 : E.md 6 = [] := rfl
theorem md_7 : E.md 7 = [] := rfl
theorem md_8 : E.md 8 = [] := rfl
theorem md_9 : E.md 9 = [] := rfl
theorem md_10 : E.md 10 = [] := rfl
theorem md_11 : E.md 11 = [] := rfl
theorem md_12 : E.md 12 = [] := rfl
theorem md_13 : E.md 13 = [] := rfl
theorem md_14 : E.md 14 = [] := rfl
theorem md_15 : E.md 15 = [] := rfl
theorem md_16 : E.md 16 = [] := rfl
theorem md_17 : E.md 17 = [] := rfl
theorem md_18 : E.md 18 = [] := rfl
theorem md_19 : E.md 19 = [] := rfl
theorem md_20 : E.md 20 = [] := rfl
theorem md_21 : E.md 21 = [] := rfl
theorem md_22 : E.md 22 = [] := rfl
theorem md_23 : E.md 23 = [] := rfl
theorem md_24 : E.md 24 = [.«mut», .ro] := rfl
theorem md_25 : E.md 25 = [.«mut», .ro] := rfl
theorem md_26 : E.md 26 = [.«mut», .ro] := rfl
theorem md_27 : E.md 27 = [.«mut», .ro] := rfl
theorem md_28 : E.md 28 = [] := rfl
theorem md_29 : E.md 29 = [] := rfl
theorem md_30 : E.md 30 = [] := rfl
theorem md_31 : E.md 31 = [] := rfl
theorem md_32 : E.md 32 = [] := rfl
theorem md_33 : E.md 33 = [] := rfl
theorem md_34 : E.md 34 = [] := rfl
theorem md_35 : E.md 35 = [] := rfl
theorem md_36 : E.md 36 = [] := rfl
theorem md_37 : E.md 37 = [] := rfl
theorem md_38 : E.md 38 = [] := rfl
theorem md_39 : E.md 39 = [] := rfl
theorem md_40 : E.md 40 = [] := rfl
theorem md_41 : E.md 41 = [] := rfl
theorem md_42 : E.md 42 = [] := rfl
theorem md_43 : E.md 43 = [] := rfl
theorem md_44 : E.md 44 = [] := rfl
theorem md_45 : E.md 45 = [] := rfl
theorem md_46 : E.md 46 = [] := rfl
theorem md_47 : E.md 47 = [] := rfl
theorem md_48 : E.md 48 = [] := rfl
theorem md_49 : E.md 49 = [] := rfl
theorem md_50 : E.md 50 = [] := rfl
theorem md_51 : E.md 51 = [] := rfl
theorem md_52 : E.md 52 = [] := rfl
theorem md_53 : E.md 53 = [] := rfl
theorem md_54 : E.md 54 = [] := rfl
theorem md_55 : E.md 55 = [] := rfl
theorem md_56 : E.md 56 = [] := rfl
theorem md_57 : E.md 57 = [] := rfl
theorem md_58 : E.md 58 = [] := rfl
theorem md_59 : E.md 59 = [] := rfl
theorem md_60 : E.md 60 = [] := rfl
theorem md_61 : E.md 61 = [] := rfl
theorem md_62 : E.md 62 = [.«mut», .ro] := rfl
theorem md_63 : E.md 63 = [] := rfl
theorem md_64 : E.md 64 = [] := rfl
theorem md_65 : E.md 65 = [] := rfl
theorem md_66 : E.md 66 = [] := rfl
theorem md_67 : E.md 67 = [] := rfl
theorem md_68 : E.md 68 = [] := rfl
theorem md_69 : E.md 69 = [] := rfl
theorem md_70 : E.md 70 = [] := rfl
theorem md_71 : E.md 71 = [] := rfl
theorem md_72 : E.md 72 = [] := rfl
theorem md_73 : E.md 73 = [] := rfl
theorem md_74 : E.md 74 = [] := rfl
theorem md_75 : E.md 75 = [] := rfl
theorem md_76 : E.md 76 = [] := rfl
theorem md_77 : E.md 77 = [] := rfl
theorem md_78 : E.md 78 = [] := rfl
theorem md_79 : E.md 79 = [] := rfl
theorem md_80 : E.md 80 = [] := rfl
theorem md_81 : E.md 81 = [] := rfl
theorem md_82 : E.md 82 = [] := rfl
theorem md_83 : E.md 83 = [] := rfl
theorem md_84 : E.md 84 = [] := rfl
theorem md_85 : E.md 85 = [] := rfl
theorem md_86 : E.md 86 = [] := rfl
theorem md_87 : E.md 87 = [] := rfl
theorem md_88 : E.md 88 = [] := rfl
theorem md_89 : E.md 89 = [] := rfl
theorem md_90 : E.md 90 = [] := rfl
theorem md_91 : E.md 91 = [] := rfl
theorem md_92 : E.md 92 = [] := rfl
theorem md_93 : E.md 93 = [] := rfl
theorem md_94 : E.md 94 = [] := rfl
theorem md_95 : E.md 95 = [] := rfl
theorem md_96 : E.md 96 = [.«mut», .ro] := rfl
theorem md_97 : E.md 97 = [] := rfl
theorem md_98 : E.md 98 = [] := rfl
theorem md_99 : E.md 99 = [] := rfl
theorem md_100 : E.md 100 = [] := rfl
theorem md_101 : E.md 101 = [] := rfl
theorem md_102 : E.md 102 = [] := rfl
theorem md_103 : E.md 103 = [] := rfl
theorem md_104 : E.md 104 = [] := rfl
theorem md_105 : E.md 105 = [] := rfl
theorem md_106 : E.md 106 = [] := rfl
theorem md_107 : E.md 107 = [] := rfl
theorem md_108 : E.md 108 = [] := rfl
theorem md_109 : E.md 109 = [] := rfl
theorem md_110 : E.md 110 = [] := rfl
theorem md_111 : E.md 111 = [] := rfl
theorem md_112 : E.md 112 = [] := rfl
theorem md_113 : E.md 113 = [] := rfl
theorem md_114 : E.md 114 = [] := rfl
theorem md_115 : E.md 115 = [] := rfl
theorem md_116 : E.md 116 = [] := rfl
theorem md_117 : E.md 117 = [] := rfl
theorem md_118 : E.md 118 = [] := rfl
theorem md_119 : E.md 119 = [] := rfl
theorem md_120 : E.md 120 = [] := rfl
theorem md_121 : E.md 121 = [] := rfl
theorem md_122 : E.md 122 = [] := rfl
theorem md_123 : E.md 123 = [] := rfl
theorem md_124 : E.md 124 = [] := rfl
theorem md_125 : E.md 125 = [] := rfl
theorem md_126 : E.md 126 = [] := rfl
theorem md_127 : E.md 127 = [] := rfl
theorem md_128 : E.md 128 = [] := rfl
theorem md_129 : E.md 129 = [] := rfl
theorem md_130 : E.md 130 = [] := rfl
theorem md_131 : E.md 131 = [] := rfl
theorem md_132 : E.md 132 = [] := rfl
theorem md_133 : E.md 133 = [] := rfl
theorem md_134 : E.md 134 = [] := rfl
theorem md_135 : E.md 135 = [] := rfl
theorem md_136 : E.md 136 = [] := rfl
theorem md_137 : E.md 137 = [] := rfl
theorem md_138 : E.md 138 = [] := rfl
theorem md_139 : E.md 139 = [] := rfl
theorem md_140 : E.md 140 = [] := rfl
theorem md_141 : E.md 141 = [] := rfl
theorem md_142 : E.md 142 = [] := rfl
theorem md_143 : E.md 143 = [] := rfl
theorem md_144 : E.md 144 = [] := rfl
theorem md_145 : E.md 145 = [] := rfl
theorem md_146 : E.md 146 = [] := rfl
theorem md_147 : E.md 147 = [] := rfl
theorem md_148 : E.md 148 = [] := rfl
theorem md_149 : E.md 149 = [] := rfl
theorem md_150 : E.md 150 = [] := rfl
theorem md_151 : E.md 151 = [] := rfl
theorem md_152 : E.md 152 = [.«mut»] := rfl
theorem md_153 : E.md 153 = [.give] := rfl
theorem md_154 : E.md 154 = [] := rfl
theorem md_155 : E.md 155 = [] := rfl
theorem md_156 : E.md 156 = [] := rfl
theorem md_157 : E.md 157 = [] := rfl
theorem md_158 : E.md 158 = [] := rfl
theorem md_159 : E.md 159 = [] := rfl
theorem md_160 : E.md 160 = [] := rfl
theorem md_161 : E.md 161 = [] := rfl
theorem md_162 : E.md 162 = [] := rfl
theorem md_163 : E.md 163 = [] := rfl
theorem md_166 : E.md 166 = [] := rfl
theorem md_167 : E.md 167 = [] := rfl
theorem tr_3 : E.tree 3 = false := rfl
theorem tr_4 : E.tree 4 = false := rfl
theorem tr_5 : E.tree 5 = false := rfl
theorem tr_6 : E.tree 6 = false := rfl
theorem tr_7 : E.tree 7 = false := rfl
theorem tr_8 : E.tree 8 = false := rfl
theorem tr_9 : E.tree 9 = false := rfl
theorem tr_10 : E.tree 10 = false := rfl
theorem tr_11 : E.tree 11 = false := rfl
theorem tr_12 : E.tree 12 = false := rfl
theorem tr_13 : E.tree 13 = false := rfl
theorem tr_14 : E.tree 14 = false := rfl
theorem tr_15 : E.tree 15 = false := rfl
theorem tr_16 : E.tree 16 = false := rfl
theorem tr_17 : E.tree 17 = false := rfl
theorem tr_18 : E.tree 18 = false := rfl
theorem tr_19 : E.tree 19 = false := rfl
theorem tr_20 : E.tree 20 = false := rfl
theorem tr_21 : E.tree 21 = false := rfl
theorem tr_22 : E.tree 22 = false := rfl
theorem tr_23 : E.tree 23 = false := rfl
theorem tr_24 : E.tree 24 = false := rfl
theorem tr_25 : E.tree 25 = false := rfl
theorem tr_26 : E.tree 26 = false := rfl
theorem tr_27 : E.tree 27 = false := rfl
theorem tr_28 : E.tree 28 = false := rfl
theorem tr_29 : E.tree 29 = false := rfl
theorem tr_30 : E.tree 30 = false := rfl
theorem tr_31 : E.tree 31 = false := rfl
theorem tr_32 : E.tree 32 = false := rfl
theorem tr_33 : E.tree 33 = false := rfl
theorem tr_34 : E.tree 34 = false := rfl
theorem tr_35 : E.tree 35 = false := rfl
theorem tr_36 : E.tree 36 = false := rfl
theorem tr_37 : E.tree 37 = false := rfl
theorem tr_38 : E.tree 38 = false := rfl
theorem tr_39 : E.tree 39 = false := rfl
theorem tr_40 : E.tree 40 = false := rfl
theorem tr_41 : E.tree 41 = false := rfl
theorem tr_42 : E.tree 42 = false := rfl
theorem tr_43 : E.tree 43 = false := rfl
theorem tr_44 : E.tree 44 = false := rfl
theorem tr_45 : E.tree 45 = false := rfl
theorem tr_46 : E.tree 46 = false := rfl
theorem tr_47 : E.tree 47 = false := rfl
theorem tr_48 : E.tree 48 = false := rfl
theorem tr_49 : E.tree 49 = false := rfl
theorem tr_50 : E.tree 50 = false := rfl
theorem tr_51 : E.tree 51 = false := rfl
theorem tr_52 : E.tree 52 = false := rfl
theorem tr_53 : E.tree 53 = false := rfl
theorem tr_54 : E.tree 54 = false := rfl
theorem tr_55 : E.tree 55 = false := rfl
theorem tr_56 : E.tree 56 = false := rfl
theorem tr_57 : E.tree 57 = false := rfl
theorem tr_58 : E.tree 58 = false := rfl
theorem tr_59 : E.tree 59 = false := rfl
theorem tr_60 : E.tree 60 = false := rfl
theorem tr_61 : E.tree 61 = false := rfl
theorem tr_62 : E.tree 62 = false := rfl
theorem tr_63 : E.tree 63 = false := rfl
theorem tr_64 : E.tree 64 = false := rfl
theorem tr_65 : E.tree 65 = false := rfl
theorem tr_66 : E.tree 66 = false := rfl
theorem tr_67 : E.tree 67 = false := rfl
theorem tr_68 : E.tree 68 = false := rfl
theorem tr_69 : E.tree 69 = false := rfl
theorem tr_70 : E.tree 70 = false := rfl
theorem tr_71 : E.tree 71 = false := rfl
theorem tr_72 : E.tree 72 = false := rfl
theorem tr_73 : E.tree 73 = false := rfl
theorem tr_74 : E.tree 74 = false := rfl
theorem tr_75 : E.tree 75 = false := rfl
theorem tr_76 : E.tree 76 = false := rfl
theorem tr_77 : E.tree 77 = false := rfl
theorem tr_78 : E.tree 78 = false := rfl
theorem tr_79 : E.tree 79 = false := rfl
theorem tr_80 : E.tree 80 = false := rfl
theorem tr_81 : E.tree 81 = false := rfl
theorem tr_82 : E.tree 82 = false := rfl
theorem tr_83 : E.tree 83 = false := rfl
theorem tr_84 : E.tree 84 = false := rfl
theorem tr_85 : E.tree 85 = false := rfl
theorem tr_86 : E.tree 86 = false := rfl
theorem tr_87 : E.tree 87 = false := rfl
theorem tr_88 : E.tree 88 = false := rfl
theorem tr_89 : E.tree 89 = false := rfl
theorem tr_90 : E.tree 90 = false := rfl
theorem tr_91 : E.tree 91 = false := rfl
theorem tr_92 : E.tree 92 = false := rfl
theorem tr_93 : E.tree 93 = false := rfl
theorem tr_94 : E.tree 94 = false := rfl
theorem tr_95 : E.tree 95 = false := rfl
theorem tr_96 : E.tree 96 = false := rfl
theorem tr_97 : E.tree 97 = false := rfl
theorem tr_98 : E.tree 98 = false := rfl
theorem tr_99 : E.tree 99 = false := rfl
theorem tr_100 : E.tree 100 = false := rfl
theorem tr_101 : E.tree 101 = false := rfl
theorem tr_102 : E.tree 102 = false := rfl
theorem tr_103 : E.tree 103 = false := rfl
theorem tr_104 : E.tree 104 = false := rfl
theorem tr_105 : E.tree 105 = false := rfl
theorem tr_106 : E.tree 106 = false := rfl
theorem tr_107 : E.tree 107 = false := rfl
theorem tr_108 : E.tree 108 = false := rfl
theorem tr_109 : E.tree 109 = false := rfl
theorem tr_110 : E.tree 110 = false := rfl
theorem tr_111 : E.tree 111 = false := rfl
theorem tr_112 : E.tree 112 = false := rfl
theorem tr_113 : E.tree 113 = false := rfl
theorem tr_114 : E.tree 114 = false := rfl
theorem tr_115 : E.tree 115 = false := rfl
theorem tr_116 : E.tree 116 = false := rfl
theorem tr_117 : E.tree 117 = false := rfl
theorem tr_118 : E.tree 118 = false := rfl
theorem tr_119 : E.tree 119 = false := rfl
theorem tr_120 : E.tree 120 = false := rfl
theorem tr_121 : E.tree 121 = false := rfl
theorem tr_122 : E.tree 122 = false := rfl
theorem tr_123 : E.tree 123 = false := rfl
theorem tr_124 : E.tree 124 = false := rfl
theorem tr_125 : E.tree 125 = false := rfl
theorem tr_126 : E.tree 126 = false := rfl
theorem tr_127 : E.tree 127 = false := rfl
theorem tr_128 : E.tree 128 = false := rfl
theorem tr_129 : E.tree 129 = false := rfl
theorem tr_130 : E.tree 130 = false := rfl
theorem tr_131 : E.tree 131 = false := rfl
theorem tr_132 : E.tree 132 = false := rfl
theorem tr_133 : E.tree 133 = false := rfl
theorem tr_134 : E.tree 134 = false := rfl
theorem tr_135 : E.tree 135 = false := rfl
theorem tr_136 : E.tree 136 = false := rfl
theorem tr_137 : E.tree 137 = false := rfl
theorem tr_138 : E.tree 138 = false := rfl
theorem tr_139 : E.tree 139 = false := rfl
theorem tr_140 : E.tree 140 = false := rfl
theorem tr_141 : E.tree 141 = false := rfl
theorem tr_142 : E.tree 142 = false := rfl
theorem tr_143 : E.tree 143 = false := rfl
theorem tr_144 : E.tree 144 = false := rfl
theorem tr_145 : E.tree 145 = false := rfl
theorem tr_146 : E.tree 146 = false := rfl
theorem tr_147 : E.tree 147 = false := rfl
theorem tr_148 : E.tree 148 = false := rfl
theorem tr_149 : E.tree 149 = false := rfl
theorem tr_150 : E.tree 150 = false := rfl
theorem tr_151 : E.tree 151 = false := rfl
theorem tr_154 : E.tree 154 = false := rfl
theorem tr_155 : E.tree 155 = false := rfl
theorem tr_156 : E.tree 156 = false := rfl
theorem tr_157 : E.tree 157 = false := rfl
theorem tr_158 : E.tree 158 = false := rfl
theorem tr_159 : E.tree 159 = false := rfl
theorem tr_160 : E.tree 160 = false := rfl
theorem tr_161 : E.tree 161 = false := rfl
theorem tr_162 : E.tree 162 = false := rfl
theorem tr_163 : E.tree 163 = false := rfl
theorem tr_166 : E.tree 166 = false := rfl
theorem tr_167 : E.tree 167 = false := rfl
theorem MDS : type_of% (And.intro (And.intro (And.intro (And.intro (And.intro (And.intro (And.intro (And.intro @md_3 @md_4) (And.intro @md_5 (And.intro @md_6 @md_7))) (And.intro (And.intro @md_8 @md_9) (And.intro @md_10 (And.intro @md_11 @md_12)))) (And.intro (And.intro (And.intro @md_13 @md_14) (And.intro @md_15 (And.intro @md_16 @md_17))) (And.intro (And.intro @md_18 @md_19) (And.intro @md_20 (And.intro @md_21 @md_22))))) (And.intro (And.intro (And.intro (And.intro @md_23 @md_24) (And.intro @md_25 (And.intro @md_26 @md_27))) (And.intro (And.intro @md_28 @md_29) (And.intro @md_30 (And.intro @md_31 @md_32)))) (And.intro (And.intro (And.intro @md_33 @md_34) (And.intro @md_35 (And.intro @md_36 @md_37))) (And.intro (And.intro @md_38 @md_39) (And.intro @md_40 (And.intro @md_41 @md_42)))))) (And.intro (And.intro (And.intro (And.intro (And.intro @md_43 @md_44) (And.intro @md_45 (And.intro @md_46 @md_47))) (And.intro (And.intro @md_48 @md_49) (And.intro @md_50 (And.intro @md_51 @md_52)))) (And.intro (And.intro (And.intro @md_53 @md_54) (And.intro @md_55 (And.intro @md_56 @md_57))) (And.intro (And.intro @md_58 @md_59) (And.intro @md_60 (And.intro @md_61 @md_62))))) (And.intro (And.intro (And.intro (And.intro @md_63 @md_64) (And.intro @md_65 (And.intro @md_66 @md_67))) (And.intro (And.intro @md_68 @md_69) (And.intro @md_70 (And.intro @md_71 @md_72)))) (And.intro (And.intro (And.intro @md_73 @md_74) (And.intro @md_75 (And.intro @md_76 @md_77))) (And.intro (And.intro @md_78 (And.intro @md_79 @md_80)) (And.intro @md_81 (And.intro @md_82 @md_83))))))) (And.intro (And.intro (And.intro (And.intro (And.intro (And.intro @md_84 @md_85) (And.intro @md_86 (And.intro @md_87 @md_88))) (And.intro (And.intro @md_89 @md_90) (And.intro @md_91 (And.intro @md_92 @md_93)))) (And.intro (And.intro (And.intro @md_94 @md_95) (And.intro @md_96 (And.intro @md_97 @md_98))) (And.intro (And.intro @md_99 @md_100) (And.intro @md_101 (And.intro @md_102 @md_103))))) (And.intro (And.intro (And.intro (And.intro @md_104 @md_105) (And.intro @md_106 (And.intro @md_107 @md_108))) (And.intro (And.intro @md_109 @md_110) (And.intro @md_111 (And.intro @md_112 @md_113)))) (And.intro (And.intro (And.intro @md_114 @md_115) (And.intro @md_116 (And.intro @md_117 @md_118))) (And.intro (And.intro @md_119 @md_120) (And.intro @md_121 (And.intro @md_122 @md_123)))))) (And.intro (And.intro (And.intro (And.intro (And.intro @md_124 @md_125) (And.intro @md_126 (And.intro @md_127 @md_128))) (And.intro (And.intro @md_129 @md_130) (And.intro @md_131 (And.intro @md_132 @md_133)))) (And.intro (And.intro (And.intro @md_134 @md_135) (And.intro @md_136 (And.intro @md_137 @md_138))) (And.intro (And.intro @md_139 @md_140) (And.intro @md_141 (And.intro @md_142 @md_143))))) (And.intro (And.intro (And.intro (And.intro @md_144 @md_145) (And.intro @md_146 (And.intro @md_147 @md_148))) (And.intro (And.intro @md_149 @md_150) (And.intro @md_151 (And.intro @md_152 @md_153)))) (And.intro (And.intro (And.intro @md_154 @md_155) (And.intro @md_156 (And.intro @md_157 @md_158))) (And.intro (And.intro @md_159 (And.intro @md_160 @md_161)) (And.intro @md_162 (And.intro @md_163 @md_166)))))))) (And.intro (And.intro (And.intro (And.intro (And.intro (And.intro (And.intro @md_167 @tr_3) (And.intro @tr_4 (And.intro @tr_5 @tr_6))) (And.intro (And.intro @tr_7 @tr_8) (And.intro @tr_9 (And.intro @tr_10 @tr_11)))) (And.intro (And.intro (And.intro @tr_12 @tr_13) (And.intro @tr_14 (And.intro @tr_15 @tr_16))) (And.intro (And.intro @tr_17 @tr_18) (And.intro @tr_19 (And.intro @tr_20 @tr_21))))) (And.intro (And.intro (And.intro (And.intro @tr_22 @tr_23) (And.intro @tr_24 (And.intro @tr_25 @tr_26))) (And.intro (And.intro @tr_27 @tr_28) (And.intro @tr_29 (And.intro @tr_30 @tr_31)))) (And.intro (And.intro (And.intro @tr_32 @tr_33) (And.intro @tr_34 (And.intro @tr_35 @tr_36))) (And.intro (And.intro @tr_37 @tr_38) (And.intro @tr_39 (And.intro @tr_40 @tr_41)))))) (And.intro (And.intro (And.intro (And.intro (And.intro @tr_42 @tr_43) (And.intro @tr_44 (And.intro @tr_45 @tr_46))) (And.intro (And.intro @tr_47 @tr_48) (And.intro @tr_49 (And.intro @tr_50 @tr_51)))) (And.intro (And.intro (And.intro @tr_52 @tr_53) (And.intro @tr_54 (And.intro @tr_55 @tr_56))) (And.intro (And.intro @tr_57 @tr_58) (And.intro @tr_59 (And.intro @tr_60 @tr_61))))) (And.intro (And.intro (And.intro (And.intro @tr_62 @tr_63) (And.intro @tr_64 (And.intro @tr_65 @tr_66))) (And.intro (And.intro @tr_67 @tr_68) (And.intro @tr_69 (And.intro @tr_70 @tr_71)))) (And.intro (And.intro (And.intro @tr_72 @tr_73) (And.intro @tr_74 (And.intro @tr_75 @tr_76))) (And.intro (And.intro @tr_77 (And.intro @tr_78 @tr_79)) (And.intro @tr_80 (And.intro @tr_81 @tr_82))))))) (And.intro (And.intro (And.intro (And.intro (And.intro (And.intro @tr_83 @tr_84) (And.intro @tr_85 (And.intro @tr_86 @tr_87))) (And.intro (And.intro @tr_88 @tr_89) (And.intro @tr_90 (And.intro @tr_91 @tr_92)))) (And.intro (And.intro (And.intro @tr_93 @tr_94) (And.intro @tr_95 (And.intro @tr_96 @tr_97))) (And.intro (And.intro @tr_98 @tr_99) (And.intro @tr_100 (And.intro @tr_101 @tr_102))))) (And.intro (And.intro (And.intro (And.intro @tr_103 @tr_104) (And.intro @tr_105 (And.intro @tr_106 @tr_107))) (And.intro (And.intro @tr_108 @tr_109) (And.intro @tr_110 (And.intro @tr_111 @tr_112)))) (And.intro (And.intro (And.intro @tr_113 @tr_114) (And.intro @tr_115 (And.intro @tr_116 @tr_117))) (And.intro (And.intro @tr_118 @tr_119) (And.intro @tr_120 (And.intro @tr_121 @tr_122)))))) (And.intro (And.intro (And.intro (And.intro (And.intro @tr_123 @tr_124) (And.intro @tr_125 (And.intro @tr_126 @tr_127))) (And.intro (And.intro @tr_128 @tr_129) (And.intro @tr_130 (And.intro @tr_131 @tr_132)))) (And.intro (And.intro (And.intro @tr_133 @tr_134) (And.intro @tr_135 (And.intro @tr_136 @tr_137))) (And.intro (And.intro @tr_138 @tr_139) (And.intro @tr_140 (And.intro @tr_141 @tr_142))))) (And.intro (And.intro (And.intro (And.intro @tr_143 @tr_144) (And.intro @tr_145 (And.intro @tr_146 @tr_147))) (And.intro (And.intro @tr_148 @tr_149) (And.intro @tr_150 (And.intro @tr_151 @tr_154)))) (And.intro (And.intro (And.intro @tr_155 @tr_156) (And.intro @tr_157 (And.intro @tr_158 @tr_159))) (And.intro (And.intro @tr_160 (And.intro @tr_161 @tr_162)) (And.intro @tr_163 (And.intro @tr_166 @tr_167))))))))) := (And.intro (And.intro (And.intro (And.intro (And.intro (And.intro (And.intro (And.intro @md_3 @md_4) (And.intro @md_5 (And.intro @md_6 @md_7))) (And.intro (And.intro @md_8 @md_9) (And.intro @md_10 (And.intro @md_11 @md_12)))) (And.intro (And.intro (And.intro @md_13 @md_14) (And.intro @md_15 (And.intro @md_16 @md_17))) (And.intro (And.intro @md_18 @md_19) (And.intro @md_20 (And.intro @md_21 @md_22))))) (And.intro (And.intro (And.intro (And.intro @md_23 @md_24) (And.intro @md_25 (And.intro @md_26 @md_27))) (And.intro (And.intro @md_28 @md_29) (And.intro @md_30 (And.intro @md_31 @md_32)))) (And.intro (And.intro (And.intro @md_33 @md_34) (And.intro @md_35 (And.intro @md_36 @md_37))) (And.intro (And.intro @md_38 @md_39) (And.intro @md_40 (And.intro @md_41 @md_42)))))) (And.intro (And.intro (And.intro (And.intro (And.intro @md_43 @md_44) (And.intro @md_45 (And.intro @md_46 @md_47))) (And.intro (And.intro @md_48 @md_49) (And.intro @md_50 (And.intro @md_51 @md_52)))) (And.intro (And.intro (And.intro @md_53 @md_54) (And.intro @md_55 (And.intro @md_56 @md_57))) (And.intro (And.intro @md_58 @md_59) (And.intro @md_60 (And.intro @md_61 @md_62))))) (And.intro (And.intro (And.intro (And.intro @md_63 @md_64) (And.intro @md_65 (And.intro @md_66 @md_67))) (And.intro (And.intro @md_68 @md_69) (And.intro @md_70 (And.intro @md_71 @md_72)))) (And.intro (And.intro (And.intro @md_73 @md_74) (And.intro @md_75 (And.intro @md_76 @md_77))) (And.intro (And.intro @md_78 (And.intro @md_79 @md_80)) (And.intro @md_81 (And.intro @md_82 @md_83))))))) (And.intro (And.intro (And.intro (And.intro (And.intro (And.intro @md_84 @md_85) (And.intro @md_86 (And.intro @md_87 @md_88))) (And.intro (And.intro @md_89 @md_90) (And.intro @md_91 (And.intro @md_92 @md_93)))) (And.intro (And.intro (And.intro @md_94 @md_95) (And.intro @md_96 (And.intro @md_97 @md_98))) (And.intro (And.intro @md_99 @md_100) (And.intro @md_101 (And.intro @md_102 @md_103))))) (And.intro (And.intro (And.intro (And.intro @md_104 @md_105) (And.intro @md_106 (And.intro @md_107 @md_108))) (And.intro (And.intro @md_109 @md_110) (And.intro @md_111 (And.intro @md_112 @md_113)))) (And.intro (And.intro (And.intro @md_114 @md_115) (And.intro @md_116 (And.intro @md_117 @md_118))) (And.intro (And.intro @md_119 @md_120) (And.intro @md_121 (And.intro @md_122 @md_123)))))) (And.intro (And.intro (And.intro (And.intro (And.intro @md_124 @md_125) (And.intro @md_126 (And.intro @md_127 @md_128))) (And.intro (And.intro @md_129 @md_130) (And.intro @md_131 (And.intro @md_132 @md_133)))) (And.intro (And.intro (And.intro @md_134 @md_135) (And.intro @md_136 (And.intro @md_137 @md_138))) (And.intro (And.intro @md_139 @md_140) (And.intro @md_141 (And.intro @md_142 @md_143))))) (And.intro (And.intro (And.intro (And.intro @md_144 @md_145) (And.intro @md_146 (And.intro @md_147 @md_148))) (And.intro (And.intro @md_149 @md_150) (And.intro @md_151 (And.intro @md_152 @md_153)))) (And.intro (And.intro (And.intro @md_154 @md_155) (And.intro @md_156 (And.intro @md_157 @md_158))) (And.intro (And.intro @md_159 (And.intro @md_160 @md_161)) (And.intro @md_162 (And.intro @md_163 @md_166)))))))) (And.intro (And.intro (And.intro (And.intro (And.intro (And.intro (And.intro @md_167 @tr_3) (And.intro @tr_4 (And.intro @tr_5 @tr_6))) (And.intro (And.intro @tr_7 @tr_8) (And.intro @tr_9 (And.intro @tr_10 @tr_11)))) (And.intro (And.intro (And.intro @tr_12 @tr_13) (And.intro @tr_14 (And.intro @tr_15 @tr_16))) (And.intro (And.intro @tr_17 @tr_18) (And.intro @tr_19 (And.intro @tr_20 @tr_21))))) (And.intro (And.intro (And.intro (And.intro @tr_22 @tr_23) (And.intro @tr_24 (And.intro @tr_25 @tr_26))) (And.intro (And.intro @tr_27 @tr_28) (And.intro @tr_29 (And.intro @tr_30 @tr_31)))) (And.intro (And.intro (And.intro @tr_32 @tr_33) (And.intro @tr_34 (And.intro @tr_35 @tr_36))) (And.intro (And.intro @tr_37 @tr_38) (And.intro @tr_39 (And.intro @tr_40 @tr_41)))))) (And.intro (And.intro (And.intro (And.intro (And.intro @tr_42 @tr_43) (And.intro @tr_44 (And.intro @tr_45 @tr_46))) (And.intro (And.intro @tr_47 @tr_48) (And.intro @tr_49 (And.intro @tr_50 @tr_51)))) (And.intro (And.intro (And.intro @tr_52 @tr_53) (And.intro @tr_54 (And.intro @tr_55 @tr_56))) (And.intro (And.intro @tr_57 @tr_58) (And.intro @tr_59 (And.intro @tr_60 @tr_61))))) (And.intro (And.intro (And.intro (And.intro @tr_62 @tr_63) (And.intro @tr_64 (And.intro @tr_65 @tr_66))) (And.intro (And.intro @tr_67 @tr_68) (And.intro @tr_69 (And.intro @tr_70 @tr_71)))) (And.intro (And.intro (And.intro @tr_72 @tr_73) (And.intro @tr_74 (And.intro @tr_75 @tr_76))) (And.intro (And.intro @tr_77 (And.intro @tr_78 @tr_79)) (And.intro @tr_80 (And.intro @tr_81 @tr_82))))))) (And.intro (And.intro (And.intro (And.intro (And.intro (And.intro @tr_83 @tr_84) (And.intro @tr_85 (And.intro @tr_86 @tr_87))) (And.intro (And.intro @tr_88 @tr_89) (And.intro @tr_90 (And.intro @tr_91 @tr_92)))) (And.intro (And.intro (And.intro @tr_93 @tr_94) (And.intro @tr_95 (And.intro @tr_96 @tr_97))) (And.intro (And.intro @tr_98 @tr_99) (And.intro @tr_100 (And.intro @tr_101 @tr_102))))) (And.intro (And.intro (And.intro (And.intro @tr_103 @tr_104) (And.intro @tr_105 (And.intro @tr_106 @tr_107))) (And.intro (And.intro @tr_108 @tr_109) (And.intro @tr_110 (And.intro @tr_111 @tr_112)))) (And.intro (And.intro (And.intro @tr_113 @tr_114) (And.intro @tr_115 (And.intro @tr_116 @tr_117))) (And.intro (And.intro @tr_118 @tr_119) (And.intro @tr_120 (And.intro @tr_121 @tr_122)))))) (And.intro (And.intro (And.intro (And.intro (And.intro @tr_123 @tr_124) (And.intro @tr_125 (And.intro @tr_126 @tr_127))) (And.intro (And.intro @tr_128 @tr_129) (And.intro @tr_130 (And.intro @tr_131 @tr_132)))) (And.intro (And.intro (And.intro @tr_133 @tr_134) (And.intro @tr_135 (And.intro @tr_136 @tr_137))) (And.intro (And.intro @tr_138 @tr_139) (And.intro @tr_140 (And.intro @tr_141 @tr_142))))) (And.intro (And.intro (And.intro (And.intro @tr_143 @tr_144) (And.intro @tr_145 (And.intro @tr_146 @tr_147))) (And.intro (And.intro @tr_148 @tr_149) (And.intro @tr_150 (And.intro @tr_151 @tr_154)))) (And.intro (And.intro (And.intro @tr_155 @tr_156) (And.intro @tr_157 (And.intro @tr_158 @tr_159))) (And.intro (And.intro @tr_160 (And.intro @tr_161 @tr_162)) (And.intro @tr_163 (And.intro @tr_166 @tr_167)))))))))
theorem TIS : type_of% (And.intro (And.intro (And.intro (And.intro (And.intro (And.intro @ti3 @ti4) (And.intro @ti22 @sl22)) (And.intro (And.intro @ti23 @sl23) (And.intro @ti24 @sl24))) (And.intro (And.intro (And.intro @ti26 @is26) (And.intro @ti28 @is28)) (And.intro (And.intro @ti32 @sl32) (And.intro @ti34 (And.intro @sl34 @ti36))))) (And.intro (And.intro (And.intro (And.intro @sl36 @ti38) (And.intro @sl38 @ti40)) (And.intro (And.intro @is40 @ti42) (And.intro @is42 (And.intro @ti53 @sl53)))) (And.intro (And.intro (And.intro @ti55 @is55) (And.intro @ti58 @sl58)) (And.intro (And.intro @ti60 @is60) (And.intro @ti64 (And.intro @sl64 @ti67)))))) (And.intro (And.intro (And.intro (And.intro (And.intro @sl67 @ti71) (And.intro @sl71 @ti73)) (And.intro (And.intro @is73 @ti75) (And.intro @is75 @ti78))) (And.intro (And.intro (And.intro @sl78 @ti80) (And.intro @is80 @ti82)) (And.intro (And.intro @is82 @ti95) (And.intro @is95 (And.intro @ti97 @is97))))) (And.intro (And.intro (And.intro (And.intro @ti99 @is99) (And.intro @ti101 @is101)) (And.intro (And.intro @ti117 @sl117) (And.intro @ti123 (And.intro @is123 @ti130)))) (And.intro (And.intro (And.intro @is130 @ti145) (And.intro @is145 @ti158)) (And.intro (And.intro @is158 @ti169) (And.intro @na169 (And.intro @ar169 @ns169))))))) := (And.intro (And.intro (And.intro (And.intro (And.intro (And.intro @ti3 @ti4) (And.intro @ti22 @sl22)) (And.intro (And.intro @ti23 @sl23) (And.intro @ti24 @sl24))) (And.intro (And.intro (And.intro @ti26 @is26) (And.intro @ti28 @is28)) (And.intro (And.intro @ti32 @sl32) (And.intro @ti34 (And.intro @sl34 @ti36))))) (And.intro (And.intro (And.intro (And.intro @sl36 @ti38) (And.intro @sl38 @ti40)) (And.intro (And.intro @is40 @ti42) (And.intro @is42 (And.intro @ti53 @sl53)))) (And.intro (And.intro (And.intro @ti55 @is55) (And.intro @ti58 @sl58)) (And.intro (And.intro @ti60 @is60) (And.intro @ti64 (And.intro @sl64 @ti67)))))) (And.intro (And.intro (And.intro (And.intro (And.intro @sl67 @ti71) (And.intro @sl71 @ti73)) (And.intro (And.intro @is73 @ti75) (And.intro @is75 @ti78))) (And.intro (And.intro (And.intro @sl78 @ti80) (And.intro @is80 @ti82)) (And.intro (And.intro @is82 @ti95) (And.intro @is95 (And.intro @ti97 @is97))))) (And.intro (And.intro (And.intro (And.intro @ti99 @is99) (And.intro @ti101 @is101)) (And.intro (And.intro @ti117 @sl117) (And.intro @ti123 (And.intro @is123 @ti130)))) (And.intro (And.intro (And.intro @is130 @ti145) (And.intro @is145 @ti158)) (And.intro (And.intro @is158 @ti169) (And.intro @na169 (And.intro @ar169 @ns169)))))))
end Go.Proofs.YtfljmpjckeopgaaGreat.Flat
