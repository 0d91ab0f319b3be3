/-
The program's functions, and how they are reckoned with: tables.
-/
import Derived.Test.YtaojmienjikfbaaGreatDoorFlatM5
import Derived.Test.YtaojmienjikfbaaGreatDoorFlatM4
import Derived.Test.YtaojmienjikfbaaGreatDoorProg
import Derived.KernelRfl
set_option linter.unusedVariables false
set_option linter.unusedSimpArgs false
namespace Go.Proofs.YtaojmienjikfbaaGreatDoor.Flat
def keepT : Nat → Nat → List Nat
  | 4, 8 => [3, 4, 5, 6, 7, 8]
  | 8, 5 => [6, 9, 10]
  | 9, 3 => [0, 3, 4]
  | 10, 3 => [0, 3, 4]
  | 13, 8 => [6, 9, 11, 27, 28, 29, 33, 34, 35]
  | 13, 5 => [6, 9, 27, 28, 29]
  | 14, 4 => [0, 1, 5]
  | 15, 4 => [0, 1, 5]
  | 19, 9 => [0, 1, 6, 7, 9, 11, 12]
  | 19, 7 => [0, 1, 6, 7, 9]
  | 19, 3 => [0, 1, 6, 7, 9, 16, 17]
  | 23, 5 => [0, 1, 5]
  | 25, 2 => [1, 3]
  | 26, 3 => [0, 1, 6, 7, 9, 10]
  | 27, 5 => [0, 3, 4]
  | 30, 3 => [0, 3, 4]
  | 33, 3 => [0, 1, 7, 9, 14, 15, 16]
  | 37, 4 => [0, 1, 5]
  | 39, 3 => [1, 5, 9, 10, 11]
  | 40, 3 => [1, 5, 9, 10, 11]
  | 42, 3 => [2, 5, 8, 9, 10]
  | 61, 3 => [0, 3, 4]
  | 62, 5 => [0, 4, 5, 6, 7, 8]
  | 63, 3 => [0, 2, 3, 4]
  | 65, 8 => [0, 2, 3]
  | 67, 2 => [0, 1, 7, 8]
  | 75, 2 => [0, 1, 7, 8]
  | 82, 3 => [0, 3, 4]
  | 83, 3 => [0, 3, 4]
  | 88, 6 => [0, 3, 6, 7, 8]
  | 94, 5 => [0, 1, 5]
  | 95, 3 => [1, 2, 5]
  | 96, 4 => [1, 3]
  | 98, 3 => [0, 3, 4]
  | 99, 3 => [3, 7, 8, 9]
  | 103, 3 => [1, 2, 3, 4, 11, 14, 15, 16]
  | 105, 4 => [0, 1, 5]
  | 108, 2 => [0, 3]
  | 117, 2 => [0, 1, 2, 3, 4, 5, 13]
  | 118, 3 => [0, 1, 2, 3, 4, 11, 12]
  | 122, 3 => [0, 2, 3, 4, 11, 15, 16, 17]
  | 123, 2 => [0, 1, 7, 8]
  | 134, 2 => [0, 1, 5]
  | 135, 13 => [11, 15, 16]
  | 135, 8 => [0, 1, 2, 3, 4, 11, 12, 13, 14]
  | 135, 3 => [0, 1, 2, 3, 4, 11, 12]
  | 138, 2 => [0, 1, 7, 8]
  | 139, 5 => [1, 5, 15, 16]
  | 150, 3 => [1, 2, 3, 4]
  | 151, 15 => [5, 6, 9]
  | 151, 10 => [0, 5, 6, 7, 8]
  | 151, 7 => [0, 5, 6, 7]
  | 155, 7 => [0, 4, 5, 6, 7, 21, 22, 23]
  | 155, 3 => [0, 4, 5, 6]
  | _, _ => []
def planT : Nat → Nat → List (Qt × Nat)
  | 3, 11 => [(.no, 0), (.no, 2), (.no, 4), (.no, 6), (.quiet, 1), (.quiet, 3), (.quiet, 5), (.no, 7), (.no, 8), (.no, 9)]
  | 3, 15 => [(.no, 0), (.no, 1), (.no, 2), (.no, 3), (.quiet, 4), (.no, 5), (.no, 6)]
  | 3, 22 => [(.no, 0), (.no, 1), (.quiet, 2), (.no, 3), (.no, 4)]
  | 4, 10 => [(.no, 0), (.no, 1), (.no, 2), (.no, 3), (.no, 4), (.no, 5), (.no, 6), (.no, 7), (.no, 8), (.no, 9), (.no, 10), (.no, 11), (.no, 12), (.no, 13), (.no, 14), (.no, 15), (.no, 16), (.no, 17), (.no, 18), (.no, 19), (.no, 20), (.no, 21), (.no, 22), (.no, 23), (.no, 24), (.no, 25), (.no, 26), (.no, 27), (.no, 28), (.no, 29), (.no, 30), (.no, 31), (.no, 32), (.no, 33), (.no, 34), (.no, 35), (.no, 36), (.no, 37), (.no, 38), (.no, 39), (.no, 40), (.no, 41), (.no, 42)]
  | 4, 13 => [(.no, 0), (.no, 1), (.no, 2), (.no, 3), (.no, 4), (.no, 5), (.no, 6), (.no, 7), (.no, 8), (.no, 9), (.no, 10), (.no, 11), (.quiet, 12), (.no, 13), (.no, 14), (.no, 15)]
  | 8, 7 => [(.no, 0), (.no, 1), (.no, 2), (.no, 3), (.no, 4), (.no, 5), (.no, 6), (.no, 7), (.no, 8), (.no, 9)]
  | 13, 11 => [(.no, 0), (.no, 1), (.no, 2), (.no, 3), (.quiet, 4), (.no, 5), (.no, 6)]
  | 14, 6 => [(.no, 0), (.no, 1), (.no, 2), (.no, 3), (.no, 4), (.no, 5), (.no, 6), (.no, 7), (.no, 8), (.no, 9)]
  | 15, 6 => [(.no, 0), (.no, 1), (.no, 2), (.no, 3), (.no, 4), (.no, 5), (.no, 6), (.no, 7), (.no, 8), (.no, 9)]
  | 20, 1 => [(.no, 0), (.no, 1), (.no, 2), (.no, 4), (.no, 5), (.no, 7), (.no, 8), (.no, 9), (.no, 10), (.quiet, 3), (.quiet, 6), (.no, 11), (.no, 12), (.no, 13)]
  | 21, 1 => [(.no, 0), (.no, 1), (.no, 2), (.no, 3), (.no, 4), (.no, 5), (.no, 6), (.no, 7), (.no, 8), (.no, 9), (.no, 10), (.no, 11), (.no, 12), (.no, 13), (.no, 14), (.no, 15), (.no, 16), (.no, 17), (.quiet, 18), (.no, 19), (.no, 20), (.no, 21), (.no, 22)]
  | 22, 3 => [(.no, 0), (.no, 1), (.no, 2), (.no, 3), (.no, 4), (.quiet, 5), (.no, 6), (.no, 7)]
  | 26, 5 => [(.no, 0), (.no, 1), (.no, 2), (.no, 3), (.no, 4), (.no, 5), (.no, 6), (.no, 7), (.no, 8), (.no, 9), (.no, 10), (.no, 11), (.no, 12), (.no, 13), (.no, 14), (.no, 15), (.no, 16), (.no, 17), (.no, 18), (.no, 19), (.no, 20), (.no, 21)]
  | 37, 6 => [(.no, 0), (.no, 1), (.no, 2), (.no, 3), (.no, 4), (.no, 5), (.no, 6), (.no, 7), (.no, 8), (.no, 9)]
  | 38, 8 => [(.no, 0), (.no, 1), (.no, 2), (.no, 3), (.quiet, 4), (.quiet, 5), (.soft [9] [9, 32], 6), (.no, 7)]
  | 62, 17 => [(.no, 0), (.no, 1), (.no, 2), (.soft [47] [7, 47, 48], 3), (.no, 4), (.no, 5), (.no, 6), (.no, 7)]
  | 62, 18 => [(.no, 0), (.no, 1), (.no, 2), (.soft [54] [7, 54, 55], 3), (.no, 4), (.no, 5), (.no, 6)]
  | 62, 20 => [(.no, 0), (.no, 1), (.no, 2), (.quiet, 3), (.quiet, 4), (.no, 5)]
  | 63, 5 => [(.no, 0), (.no, 1), (.no, 2), (.soft [15] [3, 15, 16], 3), (.soft [15] [3, 15, 16], 4), (.no, 5), (.no, 6), (.no, 7)]
  | 65, 6 => [(.no, 0), (.no, 1), (.no, 2), (.no, 5), (.quiet, 6), (.no, 8), (.no, 10), (.soft [16] [0, 3, 16, 17, 21, 22, 24, 26], 3), (.no, 4), (.soft [16] [0, 3, 16, 17, 19, 20, 24, 26], 7), (.soft [16] [0, 3, 16, 17, 19, 20, 26], 9), (.soft [16] [3, 16, 17, 19, 20], 11), (.no, 12), (.soft [16] [3, 16, 17], 13), (.no, 14), (.no, 15), (.no, 16)]
  | 65, 9 => [(.no, 0), (.no, 1), (.no, 2), (.soft [38] [3, 38, 39], 3), (.soft [38] [3, 38, 39], 4), (.no, 5), (.no, 6), (.no, 7)]
  | 71, 3 => [(.no, 0), (.no, 1), (.no, 2), (.no, 3), (.no, 4), (.no, 5), (.no, 6), (.no, 7), (.no, 8), (.no, 9)]
  | 71, 5 => [(.no, 0), (.no, 1), (.no, 2), (.no, 3), (.no, 4), (.no, 5), (.no, 6), (.no, 7), (.no, 8), (.no, 9), (.no, 10), (.no, 11), (.no, 12), (.no, 13), (.no, 14), (.no, 15), (.no, 16), (.no, 17), (.no, 18)]
  | 71, 7 => [(.no, 0), (.no, 1), (.no, 2), (.no, 3), (.no, 4), (.no, 5), (.no, 6), (.no, 7), (.no, 8), (.no, 9), (.no, 10), (.no, 11), (.no, 12), (.no, 13), (.no, 14), (.no, 15), (.no, 16), (.no, 17), (.no, 18)]
  | 79, 9 => [(.no, 0), (.no, 1), (.no, 2), (.no, 3), (.no, 4), (.no, 5), (.no, 6), (.no, 8), (.no, 9), (.quiet, 7), (.no, 10), (.no, 11)]
  | 79, 11 => [(.no, 0), (.no, 1), (.no, 2), (.no, 3), (.no, 4), (.no, 5), (.no, 6), (.no, 8), (.no, 9), (.quiet, 7), (.no, 10), (.no, 11)]
  | 86, 2 => [(.no, 0), (.no, 1), (.no, 2), (.soft [12] [3, 12, 13], 3), (.no, 4), (.no, 5), (.no, 6)]
  | 88, 8 => [(.no, 0), (.no, 1), (.no, 2), (.no, 3), (.no, 4), (.no, 5), (.no, 6), (.no, 7), (.no, 8), (.no, 9)]
  | 92, 10 => [(.no, 0), (.no, 1), (.no, 2), (.soft [27] [3, 27, 28], 3), (.soft [27] [3, 27, 28], 4), (.no, 5), (.no, 6), (.no, 7)]
  | 97, 9 => [(.no, 0), (.no, 1), (.no, 2), (.no, 3), (.no, 4), (.no, 5), (.no, 6), (.no, 8), (.no, 9), (.quiet, 7), (.no, 10), (.no, 11)]
  | 97, 11 => [(.no, 0), (.no, 1), (.no, 2), (.no, 3), (.no, 4), (.no, 5), (.no, 6), (.no, 8), (.no, 9), (.quiet, 7), (.no, 10), (.no, 11)]
  | 105, 6 => [(.no, 0), (.no, 1), (.no, 2), (.no, 3), (.no, 4), (.no, 5), (.no, 6), (.no, 7), (.no, 8), (.no, 9)]
  | 107, 2 => [(.no, 0), (.no, 1), (.no, 2), (.no, 3), (.no, 4), (.no, 5), (.no, 6), (.no, 7), (.no, 8), (.no, 9), (.no, 10), (.no, 11), (.no, 12)]
  | 107, 3 => [(.no, 0), (.no, 1), (.no, 2), (.no, 3), (.no, 4), (.no, 5), (.no, 6), (.no, 7), (.no, 8), (.no, 9)]
  | 107, 4 => [(.no, 0), (.no, 1), (.no, 2), (.no, 3), (.no, 4), (.no, 5), (.no, 6), (.no, 7), (.no, 8), (.no, 9), (.no, 10), (.no, 11), (.no, 12), (.no, 13), (.no, 14)]
  | 108, 4 => [(.no, 0), (.no, 1), (.no, 2), (.no, 3), (.no, 4), (.no, 5), (.no, 6), (.no, 7), (.no, 8), (.no, 9), (.no, 10), (.no, 11), (.no, 12), (.no, 13), (.no, 14), (.no, 15), (.no, 16), (.no, 17), (.no, 18), (.no, 19), (.no, 20), (.no, 21), (.no, 22)]
  | 113, 9 => [(.no, 0), (.no, 1), (.no, 2), (.no, 3), (.soft [5] [5, 31], 4), (.no, 5), (.no, 6)]
  | 113, 11 => [(.no, 0), (.no, 1), (.no, 2), (.no, 3), (.soft [6] [6, 41], 4), (.no, 5), (.no, 6)]
  | 115, 13 => [(.no, 0), (.no, 1), (.no, 2), (.no, 3), (.no, 4), (.no, 5), (.no, 6), (.no, 7), (.no, 8), (.no, 9), (.quiet, 10), (.no, 11), (.no, 12), (.no, 13)]
  | 119, 12 => [(.no, 0), (.no, 1), (.no, 2), (.no, 3), (.no, 4), (.quiet, 5), (.no, 6), (.no, 7), (.no, 8), (.no, 9), (.no, 10), (.no, 11), (.no, 12), (.no, 13), (.no, 14), (.no, 15), (.no, 16), (.no, 17), (.no, 18), (.no, 19)]
  | 131, 1 => [(.no, 0), (.no, 2), (.quiet, 1), (.no, 3), (.no, 4), (.no, 5), (.no, 6)]
  | 132, 1 => [(.no, 0), (.no, 2), (.quiet, 1), (.no, 3), (.no, 4), (.no, 5), (.no, 6)]
  | 150, 5 => [(.no, 0), (.no, 1), (.no, 2), (.no, 3), (.no, 4), (.no, 5), (.no, 6), (.quiet, 7), (.soft [19] [3, 19, 20], 8), (.no, 9), (.no, 10), (.no, 11)]
  | _, _ => []
def okT : List Nat := [3, 4, 5, 6, 7, 8, 9, 10, 11, 12, 13, 14, 15, 16, 17, 18, 19, 20, 21, 22, 23, 24, 25, 26, 27, 28, 29, 30, 31, 32, 33, 34, 35, 36, 37, 38, 39, 40, 41, 42, 43, 44, 45, 46, 47, 48, 49, 50, 51, 52, 53, 54, 55, 56, 57, 58, 60, 61, 62, 63, 64, 65, 66, 67, 68, 69, 70, 71, 72, 73, 74, 75, 76, 77, 78, 79, 81, 82, 83, 84, 85, 86, 87, 88, 89, 90, 91, 92, 93, 94, 95, 96, 97, 98, 99, 100, 101, 102, 103, 105, 106, 107, 108, 109, 110, 111, 112, 113, 114, 115, 116, 117, 118, 119, 120, 121, 122, 123, 124, 125, 130, 131, 132, 133, 134, 135, 136, 137, 138, 139, 142, 143, 144, 150, 151, 152, 153, 154, 155, 158, 161]
def treeT : List Nat := [150]
def mdT : Nat → List Mode
  | 61 => [.give]
  | 62 => [.io]
  | 63 => [.io]
  | 64 => [.io, .ro]
  | 65 => [.io]
  | 66 => [.io]
  | 82 => [.io]
  | 83 => [.io]
  | 84 => [.io]
  | 85 => [.io, .ro]
  | 86 => [.io]
  | 89 => [.io]
  | 90 => [.io, .ro]
  | 91 => [.io]
  | 92 => [.io]
  | 93 => [.io]
  | 106 => [.io, .ro]
  | 107 => [.io]
  | 113 => [.io, .ro]
  | 114 => [.io]
  | 140 => [.«mut»]
  | 141 => [.give]
  | _ => []
noncomputable def E : Env := { P := Go.Proofs.Tryz.prog, md := mdT, keep := keepT, plan := planT, ok := fun f => okT.contains f, tree := fun f => treeT.contains f }
theorem mixed : E.P.follows .mixedOrders = true := by kernel_rfl
def good1 (P : Program) (plan : Nat → Nat → List (Qt × Nat)) (md : Nat → List Mode) (f : Nat) : Bool :=
  match P.funcs[f]? with
  | some fn => (match fn.body with | some c => codeOK (plan f) c && codePin (mutSlots 0 (md f)) c | none => true) && !(fn.name == "runtime.NumGoroutine")
  | none => true
theorem good1_ok {E : Env} {l : List Nat} (ho : ∀ f, E.ok f = true → f ∈ l) (h : l.all (good1 E.P E.plan E.md) = true) : Sound E := by
  intro f hf fn c hfn hc
  have h1 := List.all_eq_true.1 h f (ho f hf)
  simp -implicitDefEqProofs only [good1, hfn, hc, Bool.and_eq_true, Bool.not_eq_true', beq_eq_false_iff_ne, ne_eq] at h1
  exact ⟨h1.1.1, h1.2, h1.1.2⟩
theorem sound : Sound E := good1_ok (l := okT) (fun f hf => by simpa [E] using hf) (by kernel_rfl)
def extT : Nat → Option (List AV → List (List AV) → Option (AV × List (List AV)))
  | 59 => some itoaExt
  | 140 => some sortExt
  | 141 => some compactExt
  | _ => none
abbrev noExt : Nat → Option (List AV → List (List AV) → Option (AV × List (List AV))) := extT
theorem ext_59 : noExt 59 = some itoaExt := rfl
theorem ext_140 : noExt 140 = some sortExt := rfl
theorem ext_141 : noExt 141 = some compactExt := rfl
abbrev nSort : Nat := 140
abbrev nCompact : Nat := 141
abbrev nItoa : Nat := 59
abbrev tBool : Nat := 4
theorem tagBool : tagOf E.P 4 = .bool := by kernel_rfl
theorem one_ne : (1 = 0) = False := by simp
theorem ti3 : tiOf E.P 3 = some { tag := Tag.int IntKind.i64, agg := false, size := 1, bytes := 8, zero := some (Value.int IntKind.i64 0), elem := 0, fields := [], eqs := none } := by kernel_rfl
theorem ti4 : tiOf E.P 4 = some { tag := Tag.bool, agg := false, size := 1, bytes := 1, zero := some (Value.bool false), elem := 0, fields := [], eqs := none } := by kernel_rfl
theorem ti5 : tiOf E.P 5 = some { tag := Tag.int IntKind.u8, agg := false, size := 1, bytes := 1, zero := some (Value.int IntKind.u8 0), elem := 0, fields := [], eqs := none } := by kernel_rfl
theorem ti9 : tiOf E.P 9 = some { tag := Tag.string, agg := false, size := 1, bytes := 16, zero := some (Value.string { data := #[] }), elem := 0, fields := [], eqs := none } := by kernel_rfl
theorem st9 : isStringT E.P 9 = true := by kernel_rfl
theorem ti22 : tiOf E.P 22 = some { tag := Tag.slice, agg := false, size := 1, bytes := 24, zero := some (Value.slice none 0 0), elem := 68, fields := [], eqs := none } := by kernel_rfl
theorem sl22 : isSliceT E.P 22 = true := by kernel_rfl
theorem ti23 : tiOf E.P 23 = some { tag := Tag.slice, agg := false, size := 1, bytes := 24, zero := some (Value.slice none 0 0), elem := 72, fields := [], eqs := none } := by kernel_rfl
theorem sl23 : isSliceT E.P 23 = true := by kernel_rfl
theorem ti24 : tiOf E.P 24 = some { tag := Tag.slice, agg := false, size := 1, bytes := 24, zero := some (Value.slice none 0 0), elem := 87, fields := [], eqs := none } := by kernel_rfl
theorem sl24 : isSliceT E.P 24 = true := by kernel_rfl
theorem ti26 : tiOf E.P 26 = some { tag := Tag.struct, agg := true, size := 2, bytes := 32, zero := some (Value.agg #[Value.int IntKind.i64 0, Value.slice none 0 0]), elem := 0, fields := [(0, 1, false), (1, 1, false)], eqs := none } := by kernel_rfl
theorem is26 : isStructT E.P 26 = true := by kernel_rfl
theorem ti28 : tiOf E.P 28 = some { tag := Tag.struct, agg := true, size := 6, bytes := 48, zero := some (Value.agg #[Value.int IntKind.i64 0, Value.int IntKind.i64 0, Value.int IntKind.i64 0, Value.int IntKind.i64 0, Value.int IntKind.i64 0, Value.int IntKind.i64 0]), elem := 0, fields := [(0, 1, false), (1, 1, false), (2, 1, false), (3, 1, false), (4, 1, false), (5, 1, false)], eqs := some [0, 0, 0, 0, 0, 0] } := by kernel_rfl
theorem is28 : isStructT E.P 28 = true := by kernel_rfl
theorem ti33 : tiOf E.P 33 = some { tag := Tag.slice, agg := false, size := 1, bytes := 24, zero := some (Value.slice none 0 0), elem := 66, fields := [], eqs := none } := by kernel_rfl
theorem sl33 : isSliceT E.P 33 = true := by kernel_rfl
theorem ti35 : tiOf E.P 35 = some { tag := Tag.slice, agg := false, size := 1, bytes := 24, zero := some (Value.slice none 0 0), elem := 70, fields := [], eqs := none } := by kernel_rfl
theorem sl35 : isSliceT E.P 35 = true := by kernel_rfl
theorem ti37 : tiOf E.P 37 = some { tag := Tag.slice, agg := false, size := 1, bytes := 24, zero := some (Value.slice none 0 0), elem := 63, fields := [], eqs := none } := by kernel_rfl
theorem sl37 : isSliceT E.P 37 = true := by kernel_rfl
theorem ti39 : tiOf E.P 39 = some { tag := Tag.struct, agg := true, size := 2, bytes := 32, zero := some (Value.agg #[Value.int IntKind.i64 0, Value.slice none 0 0]), elem := 0, fields := [(0, 1, false), (1, 1, false)], eqs := none } := by kernel_rfl
theorem is39 : isStructT E.P 39 = true := by kernel_rfl
theorem ti41 : tiOf E.P 41 = some { tag := Tag.struct, agg := true, size := 6, bytes := 48, zero := some (Value.agg #[Value.int IntKind.i64 0, Value.int IntKind.i64 0, Value.int IntKind.i64 0, Value.int IntKind.i64 0, Value.int IntKind.i64 0, Value.int IntKind.i64 0]), elem := 0, fields := [(0, 1, false), (1, 1, false), (2, 1, false), (3, 1, false), (4, 1, false), (5, 1, false)], eqs := some [0, 0, 0, 0, 0, 0] } := by kernel_rfl
theorem is41 : isStructT E.P 41 = true := by kernel_rfl
theorem ti47 : tiOf E.P 47 = some { tag := Tag.slice, agg := false, size := 1, bytes := 24, zero := some (Value.slice none 0 0), elem := 5, fields := [], eqs := none } := by kernel_rfl
theorem sl47 : isSliceT E.P 47 = true := by kernel_rfl
theorem ti51 : tiOf E.P 51 = some { tag := Tag.slice, agg := false, size := 1, bytes := 24, zero := some (Value.slice none 0 0), elem := 3, fields := [], eqs := none } := by kernel_rfl
theorem sl51 : isSliceT E.P 51 = true := by kernel_rfl
theorem ti59 : tiOf E.P 59 = some { tag := Tag.slice, agg := false, size := 1, bytes := 24, zero := some (Value.slice none 0 0), elem := 61, fields := [], eqs := none } := by kernel_rfl
theorem sl59 : isSliceT E.P 59 = true := by kernel_rfl
theorem ti61 : tiOf E.P 61 = some { tag := Tag.struct, agg := true, size := 4, bytes := 48, zero := some (Value.agg #[Value.int IntKind.i64 0, Value.int IntKind.i64 0, Value.int IntKind.i64 0, Value.slice none 0 0]), elem := 0, fields := [(0, 1, false), (1, 1, false), (2, 1, false), (3, 1, false)], eqs := none } := by kernel_rfl
theorem is61 : isStructT E.P 61 = true := by kernel_rfl
theorem ti63 : tiOf E.P 63 = some { tag := Tag.struct, agg := true, size := 7, bytes := 72, zero := some (Value.agg #[Value.int IntKind.i64 0, Value.int IntKind.i64 0, Value.int IntKind.i64 0, Value.int IntKind.i64 0, Value.int IntKind.i64 0, Value.int IntKind.i64 0, Value.slice none 0 0]), elem := 0, fields := [(0, 1, false), (1, 1, false), (2, 1, false), (3, 4, true)], eqs := none } := by kernel_rfl
theorem is63 : isStructT E.P 63 = true := by kernel_rfl
theorem ti66 : tiOf E.P 66 = some { tag := Tag.struct, agg := true, size := 2, bytes := 16, zero := some (Value.agg #[Value.int IntKind.i64 0, Value.int IntKind.i64 0]), elem := 0, fields := [(0, 1, false), (1, 1, false)], eqs := some [0, 0] } := by kernel_rfl
theorem is66 : isStructT E.P 66 = true := by kernel_rfl
theorem ti68 : tiOf E.P 68 = some { tag := Tag.struct, agg := true, size := 2, bytes := 16, zero := some (Value.agg #[Value.int IntKind.i64 0, Value.int IntKind.i64 0]), elem := 0, fields := [(0, 1, false), (1, 1, false)], eqs := some [0, 0] } := by kernel_rfl
theorem is68 : isStructT E.P 68 = true := by kernel_rfl
theorem ti70 : tiOf E.P 70 = some { tag := Tag.struct, agg := true, size := 6, bytes := 48, zero := some (Value.agg #[Value.int IntKind.i64 0, Value.int IntKind.i64 0, Value.int IntKind.i64 0, Value.int IntKind.i64 0, Value.int IntKind.i64 0, Value.int IntKind.i64 0]), elem := 0, fields := [(0, 1, false), (1, 1, false), (2, 1, false), (3, 1, false), (4, 1, false), (5, 1, false)], eqs := some [0, 0, 0, 0, 0, 0] } := by kernel_rfl
theorem is70 : isStructT E.P 70 = true := by kernel_rfl
theorem ti72 : tiOf E.P 72 = some { tag := Tag.struct, agg := true, size := 6, bytes := 48, zero := some (Value.agg #[Value.int IntKind.i64 0, Value.int IntKind.i64 0, Value.int IntKind.i64 0, Value.int IntKind.i64 0, Value.int IntKind.i64 0, Value.int IntKind.i64 0]), elem := 0, fields := [(0, 1, false), (1, 1, false), (2, 1, false), (3, 1, false), (4, 1, false), (5, 1, false)], eqs := some [0, 0, 0, 0, 0, 0] } := by kernel_rfl
theorem is72 : isStructT E.P 72 = true := by kernel_rfl
theorem ti74 : tiOf E.P 74 = some { tag := Tag.array 2, agg := true, size := 2, bytes := 32, zero := some (Value.agg { toList := [Value.string { data := #[] }, Value.string { data := #[] }] }), elem := 9, fields := [], eqs := none } := by kernel_rfl
theorem na74 : isSliceT E.P 74 = false := by kernel_rfl
theorem ar74 : isArrayT E.P 74 = some 2 := by kernel_rfl
theorem ns74 : isStructT E.P 74 = false := by kernel_rfl
theorem ti83 : tiOf E.P 83 = some { tag := Tag.slice, agg := false, size := 1, bytes := 24, zero := some (Value.slice none 0 0), elem := 85, fields := [], eqs := none } := by kernel_rfl
theorem sl83 : isSliceT E.P 83 = true := by kernel_rfl
theorem ti85 : tiOf E.P 85 = some { tag := Tag.struct, agg := true, size := 4, bytes := 48, zero := some (Value.agg #[Value.int IntKind.i64 0, Value.int IntKind.i64 0, Value.int IntKind.i64 0, Value.slice none 0 0]), elem := 0, fields := [(0, 1, false), (1, 1, false), (2, 1, false), (3, 1, false)], eqs := none } := by kernel_rfl
theorem is85 : isStructT E.P 85 = true := by kernel_rfl
theorem ti87 : tiOf E.P 87 = some { tag := Tag.struct, agg := true, size := 7, bytes := 72, zero := some (Value.agg #[Value.int IntKind.i64 0, Value.int IntKind.i64 0, Value.int IntKind.i64 0, Value.int IntKind.i64 0, Value.int IntKind.i64 0, Value.int IntKind.i64 0, Value.slice none 0 0]), elem := 0, fields := [(0, 1, false), (1, 1, false), (2, 1, false), (3, 4, true)], eqs := none } := by kernel_rfl
theorem is87 : isStructT E.P 87 = true := by kernel_rfl
theorem ti113 : tiOf E.P 113 = some { tag := Tag.struct, agg := true, size := 3, bytes := 40, zero := some (Value.agg #[Value.slice none 0 0, Value.int IntKind.i64 0, Value.int IntKind.i64 0]), elem := 0, fields := [(0, 1, false), (1, 1, false), (2, 1, false)], eqs := none } := by kernel_rfl
theorem is113 : isStructT E.P 113 = true := by kernel_rfl
theorem ti160 : tiOf E.P 160 = some { tag := Tag.slice, agg := false, size := 1, bytes := 24, zero := some (Value.slice none 0 0), elem := 4, fields := [], eqs := none } := by kernel_rfl
theorem sl160 : isSliceT E.P 160 = true := by kernel_rfl
theorem ti161 : tiOf E.P 161 = some { tag := Tag.array 6, agg := true, size := 6, bytes := 6, zero := some (Value.agg #[Value.bool false, Value.bool false, Value.bool false, Value.bool false, Value.bool false, Value.bool false]), elem := 4, fields := [], eqs := none } := by kernel_rfl
theorem na161 : isSliceT E.P 161 = false := by kernel_rfl
theorem ar161 : isArrayT E.P 161 = some 6 := by kernel_rfl
theorem ns161 : isStructT E.P 161 = false := by kernel_rfl
theorem plan_3_11 : E.plan 3 11 = [(.no, 0), (.no, 2), (.no, 4), (.no, 6), (.quiet, 1), (.quiet, 3), (.quiet, 5), (.no, 7), (.no, 8), (.no, 9)] := rfl
theorem plan_3_15 : E.plan 3 15 = [(.no, 0), (.no, 1), (.no, 2), (.no, 3), (.quiet, 4), (.no, 5), (.no, 6)] := rfl
theorem plan_3_22 : E.plan 3 22 = [(.no, 0), (.no, 1), (.quiet, 2), (.no, 3), (.no, 4)] := rfl
theorem plan_4_10 : E.plan 4 10 = [(.no, 0), (.no, 1), (.no, 2), (.no, 3), (.no, 4), (.no, 5), (.no, 6), (.no, 7), (.no, 8), (.no, 9), (.no, 10), (.no, 11), (.no, 12), (.no, 13), (.no, 14), (.no, 15), (.no, 16), (.no, 17), (.no, 18), (.no, 19), (.no, 20), (.no, 21), (.no, 22), (.no, 23), (.no, 24), (.no, 25), (.no, 26), (.no, 27), (.no, 28), (.no, 29), (.no, 30), (.no, 31), (.no, 32), (.no, 33), (.no, 34), (.no, 35), (.no, 36), (.no, 37), (.no, 38), (.no, 39), (.no, 40), (.no, 41), (.no, 42)] := rfl
theorem plan_4_13 : E.plan 4 13 = [(.no, 0), (.no, 1), (.no, 2), (.no, 3), (.no, 4), (.no, 5), (.no, 6), (.no, 7), (.no, 8), (.no, 9), (.no, 10), (.no, 11), (.quiet, 12), (.no, 13), (.no, 14), (.no, 15)] := rfl
theorem plan_8_7 : E.plan 8 7 = [(.no, 0), (.no, 1), (.no, 2), (.no, 3), (.no, 4), (.no, 5), (.no, 6), (.no, 7), (.no, 8), (.no, 9)] := rfl
theorem plan_13_11 : E.plan 13 11 = [(.no, 0), (.no, 1), (.no, 2), (.no, 3), (.quiet, 4), (.no, 5), (.no, 6)] := rfl
theorem plan_14_6 : E.plan 14 6 = [(.no, 0), (.no, 1), (.no, 2), (.no, 3), (.no, 4), (.no, 5), (.no, 6), (.no, 7), (.no, 8), (.no, 9)] := rfl
theorem plan_15_6 : E.plan 15 6 = [(.no, 0), (.no, 1), (.no, 2), (.no, 3), (.no, 4), (.no, 5), (.no, 6), (.no, 7), (.no, 8), (.no, 9)] := rfl
theorem plan_20_1 : E.plan 20 1 = [(.no, 0), (.no, 1), (.no, 2), (.no, 4), (.no, 5), (.no, 7), (.no, 8), (.no, 9), (.no, 10), (.quiet, 3), (.quiet, 6), (.no, 11), (.no, 12), (.no, 13)] := rfl
theorem plan_21_1 : E.plan 21 1 = [(.no, 0), (.no, 1), (.no, 2), (.no, 3), (.no, 4), (.no, 5), (.no, 6), (.no, 7), (.no, 8), (.no, 9), (.no, 10), (.no, 11), (.no, 12), (.no, 13), (.no, 14), (.no, 15), (.no, 16), (.no, 17), (.quiet, 18), (.no, 19), (.no, 20), (.no, 21), (.no, 22)] := rfl
theorem plan_22_3 : E.plan 22 3 = [(.no, 0), (.no, 1), (.no, 2), (.no, 3), (.no, 4), (.quiet, 5), (.no, 6), (.no, 7)] := rfl
theorem plan_26_5 : E.plan 26 5 = [(.no, 0), (.no, 1), (.no, 2), (.no, 3), (.no, 4), (.no, 5), (.no, 6), (.no, 7), (.no, 8), (.no, 9), (.no, 10), (.no, 11), (.no, 12), (.no, 13), (.no, 14), (.no, 15), (.no, 16), (.no, 17), (.no, 18), (.no, 19), (.no, 20), (.no, 21)] := rfl
theorem plan_37_6 : E.plan 37 6 = [(.no, 0), (.no, 1), (.no, 2), (.no, 3), (.no, 4), (.no, 5), (.no, 6), (.no, 7), (.no, 8), (.no, 9)] := rfl
theorem plan_38_8 : E.plan 38 8 = [(.no, 0), (.no, 1), (.no, 2), (.no, 3), (.quiet, 4), (.quiet, 5), (.soft [9] [9, 32], 6), (.no, 7)] := rfl
theorem plan_62_17 : E.plan 62 17 = [(.no, 0), (.no, 1), (.no, 2), (.soft [47] [7, 47, 48], 3), (.no, 4), (.no, 5), (.no, 6), (.no, 7)] := rfl
theorem plan_62_18 : E.plan 62 18 = [(.no, 0), (.no, 1), (.no, 2), (.soft [54] [7, 54, 55], 3), (.no, 4), (.no, 5), (.no, 6)] := rfl
theorem plan_62_20 : E.plan 62 20 = [(.no, 0), (.no, 1), (.no, 2), (.quiet, 3), (.quiet, 4), (.no, 5)] := rfl
theorem plan_63_5 : E.plan 63 5 = [(.no, 0), (.no, 1), (.no, 2), (.soft [15] [3, 15, 16], 3), (.soft [15] [3, 15, 16], 4), (.no, 5), (.no, 6), (.no, 7)] := rfl
theorem plan_65_6 : E.plan 65 6 = [(.no, 0), (.no, 1), (.no, 2), (.no, 5), (.quiet, 6), (.no, 8), (.no, 10), (.soft [16] [0, 3, 16, 17, 21, 22, 24, 26], 3), (.no, 4), (.soft [16] [0, 3, 16, 17, 19, 20, 24, 26], 7), (.soft [16] [0, 3, 16, 17, 19, 20, 26], 9), (.soft [16] [3, 16, 17, 19, 20], 11), (.no, 12), (.soft [16] [3, 16, 17], 13), (.no, 14), (.no, 15), (.no, 16)] := rfl
theorem plan_65_9 : E.plan 65 9 = [(.no, 0), (.no, 1), (.no, 2), (.soft [38] [3, 38, 39], 3), (.soft [38] [3, 38, 39], 4), (.no, 5), (.no, 6), (.no, 7)] := rfl
theorem plan_71_3 : E.plan 71 3 = [(.no, 0), (.no, 1), (.no, 2), (.no, 3), (.no, 4), (.no, 5), (.no, 6), (.no, 7), (.no, 8), (.no, 9)] := rfl
theorem plan_71_5 : E.plan 71 5 = [(.no, 0), (.no, 1), (.no, 2), (.no, 3), (.no, 4), (.no, 5), (.no, 6), (.no, 7), (.no, 8), (.no, 9), (.no, 10), (.no, 11), (.no, 12), (.no, 13), (.no, 14), (.no, 15), (.no, 16), (.no, 17), (.no, 18)] := rfl
theorem plan_71_7 : E.plan 71 7 = [(.no, 0), (.no, 1), (.no, 2), (.no, 3), (.no, 4), (.no, 5), (.no, 6), (.no, 7), (.no, 8), (.no, 9), (.no, 10), (.no, 11), (.no, 12), (.no, 13), (.no, 14), (.no, 15), (.no, 16), (.no, 17), (.no, 18)] := rfl
theorem plan_79_9 : E.plan 79 9 = [(.no, 0), (.no, 1), (.no, 2), (.no, 3), (.no, 4), (.no, 5), (.no, 6), (.no, 8), (.no, 9), (.quiet, 7), (.no, 10), (.no, 11)] := rfl
theorem plan_79_11 : E.plan 79 11 = [(.no, 0), (.no, 1), (.no, 2), (.no, 3), (.no, 4), (.no, 5), (.no, 6), (.no, 8), (.no, 9), (.quiet, 7), (.no, 10), (.no, 11)] := rfl
theorem plan_86_2 : E.plan 86 2 = [(.no, 0), (.no, 1), (.no, 2), (.soft [12] [3, 12, 13], 3), (.no, 4), (.no, 5), (.no, 6)] := rfl
theorem plan_88_8 : E.plan 88 8 = [(.no, 0), (.no, 1), (.no, 2), (.no, 3), (.no, 4), (.no, 5), (.no, 6), (.no, 7), (.no, 8), (.no, 9)] := rfl
theorem plan_92_10 : E.plan 92 10 = [(.no, 0), (.no, 1), (.no, 2), (.soft [27] [3, 27, 28], 3), (.soft [27] [3, 27, 28], 4), (.no, 5), (.no, 6), (.no, 7)] := rfl
theorem plan_97_9 : E.plan 97 9 = [(.no, 0), (.no, 1), (.no, 2), (.no, 3), (.no, 4), (.no, 5), (.no, 6), (.no, 8), (.no, 9), (.quiet, 7), (.no, 10), (.no, 11)] := rfl
theorem plan_97_11 : E.plan 97 11 = [(.no, 0), (.no, 1), (.no, 2), (.no, 3), (.no, 4), (.no, 5), (.no, 6), (.no, 8), (.no, 9), (.quiet, 7), (.no, 10), (.no, 11)] := rfl
theorem plan_105_6 : E.plan 105 6 = [(.no, 0), (.no, 1), (.no, 2), (.no, 3), (.no, 4), (.no, 5), (.no, 6), (.no, 7), (.no, 8), (.no, 9)] := rfl
theorem plan_107_2 : E.plan 107 2 = [(.no, 0), (.no, 1), (.no, 2), (.no, 3), (.no, 4), (.no, 5), (.no, 6), (.no, 7), (.no, 8), (.no, 9), (.no, 10), (.no, 11), (.no, 12)] := rfl
theorem plan_107_3 : E.plan 107 3 = [(.no, 0), (.no, 1), (.no, 2), (.no, 3), (.no, 4), (.no, 5), (.no, 6), (.no, 7), (.no, 8), (.no, 9)] := rfl
theorem plan_107_4 : E.plan 107 4 = [(.no, 0), (.no, 1), (.no, 2), (.no, 3), (.no, 4), (.no, 5), (.no, 6), (.no, 7), (.no, 8), (.no, 9), (.no, 10), (.no, 11), (.no, 12), (.no, 13), (.no, 14)] := rfl
theorem plan_108_4 : E.plan 108 4 = [(.no, 0), (.no, 1), (.no, 2), (.no, 3), (.no, 4), (.no, 5), (.no, 6), (.no, 7), (.no, 8), (.no, 9), (.no, 10), (.no, 11), (.no, 12), (.no, 13), (.no, 14), (.no, 15), (.no, 16), (.no, 17), (.no, 18), (.no, 19), (.no, 20), (.no, 21), (.no, 22)] := rfl
theorem plan_113_9 : E.plan 113 9 = [(.no, 0), (.no, 1), (.no, 2), (.no, 3), (.soft [5] [5, 31], 4), (.no, 5), (.no, 6)] := rfl
theorem plan_113_11 : E.plan 113 11 = [(.no, 0), (.no, 1), (.no, 2), (.no, 3), (.soft [6] [6, 41], 4), (.no, 5), (.no, 6)] := rfl
theorem plan_115_13 : E.plan 115 13 = [(.no, 0), (.no, 1), (.no, 2), (.no, 3), (.no, 4), (.no, 5), (.no, 6), (.no, 7), (.no, 8), (.no, 9), (.quiet, 10), (.no, 11), (.no, 12), (.no, 13)] := rfl
theorem plan_119_12 : E.plan 119 12 = [(.no, 0), (.no, 1), (.no, 2), (.no, 3), (.no, 4), (.quiet, 5), (.no, 6), (.no, 7), (.no, 8), (.no, 9), (.no, 10), (.no, 11), (.no, 12), (.no, 13), (.no, 14), (.no, 15), (.no, 16), (.no, 17), (.no, 18), (.no, 19)] := rfl
theorem plan_131_1 : E.plan 131 1 = [(.no, 0), (.no, 2), (.quiet, 1), (.no, 3), (.no, 4), (.no, 5), (.no, 6)] := rfl
theorem plan_132_1 : E.plan 132 1 = [(.no, 0), (.no, 2), (.quiet, 1), (.no, 3), (.no, 4), (.no, 5), (.no, 6)] := rfl
theorem plan_150_5 : E.plan 150 5 = [(.no, 0), (.no, 1), (.no, 2), (.no, 3), (.no, 4), (.no, 5), (.no, 6), (.quiet, 7), (.soft [19] [3, 19, 20], 8), (.no, 9), (.no, 10), (.no, 11)] := rfl
theorem keep_4_8 : E.keep 4 8 = [3, 4, 5, 6, 7, 8] := rfl
theorem keep_8_5 : E.keep 8 5 = [6, 9, 10] := rfl
theorem keep_9_3 : E.keep 9 3 = [0, 3, 4] := rfl
theorem keep_10_3 : E.keep 10 3 = [0, 3, 4] := rfl
theorem keep_13_8 : E.keep 13 8 = [6, 9, 11, 27, 28, 29, 33, 34, 35] := rfl
theorem keep_13_5 : E.keep 13 5 = [6, 9, 27, 28, 29] := rfl
theorem keep_14_4 : E.keep 14 4 = [0, 1, 5] := rfl
theorem keep_15_4 : E.keep 15 4 = [0, 1, 5] := rfl
theorem keep_19_9 : E.keep 19 9 = [0, 1, 6, 7, 9, 11, 12] := rfl
theorem keep_19_7 : E.keep 19 7 = [0, 1, 6, 7, 9] := rfl
theorem keep_19_3 : E.keep 19 3 = [0, 1, 6, 7, 9, 16, 17] := rfl
theorem keep_23_5 : E.keep 23 5 = [0, 1, 5] := rfl
theorem keep_25_2 : E.keep 25 2 = [1, 3] := rfl
theorem keep_26_3 : E.keep 26 3 = [0, 1, 6, 7, 9, 10] := rfl
theorem keep_27_5 : E.keep 27 5 = [0, 3, 4] := rfl
theorem keep_30_3 : E.keep 30 3 = [0, 3, 4] := rfl
theorem keep_33_3 : E.keep 33 3 = [0, 1, 7, 9, 14, 15, 16] := rfl
theorem keep_37_4 : E.keep 37 4 = [0, 1, 5] := rfl
theorem keep_39_3 : E.keep 39 3 = [1, 5, 9, 10, 11] := rfl
theorem keep_40_3 : E.keep 40 3 = [1, 5, 9, 10, 11] := rfl
theorem keep_42_3 : E.keep 42 3 = [2, 5, 8, 9, 10] := rfl
theorem keep_61_3 : E.keep 61 3 = [0, 3, 4] := rfl
theorem keep_62_5 : E.keep 62 5 = [0, 4, 5, 6, 7, 8] := rfl
theorem keep_63_3 : E.keep 63 3 = [0, 2, 3, 4] := rfl
theorem keep_65_8 : E.keep 65 8 = [0, 2, 3] := rfl
theorem keep_67_2 : E.keep 67 2 = [0, 1, 7, 8] := rfl
theorem keep_75_2 : E.keep 75 2 = [0, 1, 7, 8] := rfl
theorem keep_82_3 : E.keep 82 3 = [0, 3, 4] := rfl
theorem keep_83_3 : E.keep 83 3 = [0, 3, 4] := rfl
theorem keep_88_6 : E.keep 88 6 = [0, 3, 6, 7, 8] := rfl
theorem keep_94_5 : E.keep 94 5 = [0, 1, 5] := rfl
theorem keep_95_3 : E.keep 95 3 = [1, 2, 5] := rfl
theorem keep_96_4 : E.keep 96 4 = [1, 3] := rfl
theorem keep_98_3 : E.keep 98 3 = [0, 3, 4] := rfl
theorem keep_99_3 : E.keep 99 3 = [3, 7, 8, 9] := rfl
theorem keep_103_3 : E.keep 103 3 = [1, 2, 3, 4, 11, 14, 15, 16] := rfl
theorem keep_105_4 : E.keep 105 4 = [0, 1, 5] := rfl
theorem keep_108_2 : E.keep 108 2 = [0, 3] := rfl
theorem keep_117_2 : E.keep 117 2 = [0, 1, 2, 3, 4, 5, 13] := rfl
theorem keep_118_3 : E.keep 118 3 = [0, 1, 2, 3, 4, 11, 12] := rfl
theorem keep_122_3 : E.keep 122 3 = [0, 2, 3, 4, 11, 15, 16, 17] := rfl
theorem keep_123_2 : E.keep 123 2 = [0, 1, 7, 8] := rfl
theorem keep_134_2 : E.keep 134 2 = [0, 1, 5] := rfl
theorem keep_135_13 : E.keep 135 13 = [11, 15, 16] := rfl
theorem keep_135_8 : E.keep 135 8 = [0, 1, 2, 3, 4, 11, 12, 13, 14] := rfl
theorem keep_135_3 : E.keep 135 3 = [0, 1, 2, 3, 4, 11, 12] := rfl
theorem keep_138_2 : E.keep 138 2 = [0, 1, 7, 8] := rfl
theorem keep_139_5 : E.keep 139 5 = [1, 5, 15, 16] := rfl
theorem keep_150_3 : E.keep 150 3 = [1, 2, 3, 4] := rfl
theorem keep_151_15 : E.keep 151 15 = [5, 6, 9] := rfl
theorem keep_151_10 : E.keep 151 10 = [0, 5, 6, 7, 8] := rfl
theorem keep_151_7 : E.keep 151 7 = [0, 5, 6, 7] := rfl
theorem keep_155_7 : E.keep 155 7 = [0, 4, 5, 6, 7, 21, 22, 23] := rfl
theorem keep_155_3 : E.keep 155 3 = [0, 4, 5, 6] := rfl
theorem md_3 : E.md 3 = [] := rfl
theorem md_4 : E.md 4 = [] := rfl
theorem md_5 : E.md 5 = [] := rfl
theorem md_6 : E.md 6 = [] := rfl
theorem md_7 : E.md 7 = [] := rfl
theorem md_8 : E.md 8 = [] := rfl
theorem md_9 : E.md 9 = [] := rfl
theorem md_10 : E.md 10 = [] := rfl
theorem md_11 : E.md 11 = [] := rfl
theorem md_12 : E.md 12 = [] := rfl
theorem md_13 : E.md 13 = [] := rfl
theorem md_14 : E.md 14 = [] := rfl
theorem md_15 : E.md 15 = [] := rfl
theorem md_16 : E.md 16 = [] := rfl
theorem md_17 : E.md 17 = [] := rfl
theorem md_18 : E.md 18 = [] := rfl
theorem md_19 : E.md 19 = [] := rfl
theorem md_20 : E.md 20 = [] := rfl
theorem md_21 : E.md 21 = [] := rfl
theorem md_22 : E.md 22 = [] := rfl
theorem md_23 : E.md 23 = [] := rfl
theorem md_24 : E.md 24 = [] := rfl
theorem md_25 : E.md 25 = [] := rfl
theorem md_26 : E.md 26 = [] := rfl
theorem md_27 : E.md 27 = [] := rfl
theorem md_28 : E.md 28 = [] := rfl
theorem md_29 : E.md 29 = [] := rfl
theorem md_30 : E.md 30 = [] := rfl
theorem md_31 : E.md 31 = [] := rfl
theorem md_32 : E.md 32 = [] := rfl
theorem md_33 : E.md 33 = [] := rfl
theorem md_34 : E.md 34 = [] := rfl
theorem md_35 : E.md 35 = [] := rfl
theorem md_36 : E.md 36 = [] := rfl
theorem md_37 : E.md 37 = [] := rfl
theorem md_38 : E.md 38 = [] := rfl
theorem md_39 : E.md 39 = [] := rfl
theorem md_40 : E.md 40 = [] := rfl
theorem md_41 : E.md 41 = [] := rfl
theorem md_42 : E.md 42 = [] := rfl
theorem md_43 : E.md 43 = [] := rfl
theorem md_44 : E.md 44 = [] := rfl
theorem md_45 : E.md 45 = [] := rfl
theorem md_46 : E.md 46 = [] := rfl
theorem md_47 : E.md 47 = [] := rfl
theorem md_48 : E.md 48 = [] := rfl
theorem md_49 : E.md 49 = [] := rfl
theorem md_50 : E.md 50 = [] := rfl
theorem md_51 : E.md 51 = [] := rfl
theorem md_52 : E.md 52 = [] := rfl
theorem md_53 : E.md 53 = [] := rfl
theorem md_54 : E.md 54 = [] := rfl
theorem md_55 : E.md 55 = [] := rfl
theorem md_56 : E.md 56 = [] := rfl
theorem md_57 : E.md 57 = [] := rfl
theorem md_58 : E.md 58 = [] := rfl
theorem md_59 : E.md 59 = [] := rfl
theorem md_60 : E.md 60 = [] := rfl
theorem md_61 : E.md 61 = [.give] := rfl
theorem md_62 : E.md 62 = [.io] := rfl
theorem md_63 : E.md 63 = [.io] := rfl
theorem md_64 : E.md 64 = [.io, .ro] := rfl
theorem md_65 : E.md 65 = [.io] := rfl
theorem md_66 : E.md 66 = [.io] := rfl
theorem md_67 : E.md 67 = [] := rfl
theorem md_68 : E.md 68 = [] := rfl
theorem md_69 : E.md 69 = [] := rfl
theorem md_70 : E.md 70 = [] := rfl
theorem md_71 : E.md 71 = [] := rfl
theorem md_72 : E.md 72 = [] := rfl
theorem md_73 : E.md 73 = [] := rfl
theorem md_74 : E.md 74 = [] := rfl
theorem md_75 : E.md 75 = [] := rfl
theorem md_76 : E.md 76 = [] := rfl
theorem md_77 : E.md 77 = [] := rfl
theorem md_78 : E.md 78 = [] := rfl
theorem md_79 : E.md 79 = [] := rfl
theorem md_81 : E.md 81 = [] := rfl
theorem md_82 : E.md 82 = [.io] := rfl
theorem md_83 : E.md 83 = [.io] := rfl
theorem md_84 : E.md 84 = [.io] := rfl
theorem md_85 : E.md 85 = [.io, .ro] := rfl
theorem md_86 : E.md 86 = [.io] := rfl
theorem md_87 : E.md 87 = [] := rfl
theorem md_88 : E.md 88 = [] := rfl
theorem md_89 : E.md 89 = [.io] := rfl
theorem md_90 : E.md 90 = [.io, .ro] := rfl
theorem md_91 : E.md 91 = [.io] := rfl
theorem md_92 : E.md 92 = [.io] := rfl
theorem md_93 : E.md 93 = [.io] := rfl
theorem md_94 : E.md 94 = [] := rfl
theorem md_95 : E.md 95 = [] := rfl
theorem md_96 : E.md 96 = [] := rfl
theorem md_97 : E.md 97 = [] := rfl
theorem md_98 : E.md 98 = [] := rfl
theorem md_99 : E.md 99 = [] := rfl
theorem md_100 : E.md 100 = [] := rfl
theorem md_101 : E.md 101 = [] := rfl
theorem md_102 : E.md 102 = [] := rfl
theorem md_103 : E.md 103 = [] := rfl
theorem md_105 : E.md 105 = [] := rfl
theorem md_106 : E.md 106 = [.io, .ro] := rfl
theorem md_107 : E.md 107 = [.io] := rfl
theorem md_108 : E.md 108 = [] := rfl
theorem md_109 : E.md 109 = [] := rfl
theorem md_110 : E.md 110 = [] := rfl
theorem md_111 : E.md 111 = [] := rfl
theorem md_112 : E.md 112 = [] := rfl
theorem md_113 : E.md 113 = [.io, .ro] := rfl
theorem md_114 : E.md 114 = [.io] := rfl
theorem md_115 : E.md 115 = [] := rfl
theorem md_116 : E.md 116 = [] := rfl
theorem md_117 : E.md 117 = [] := rfl
theorem md_118 : E.md 118 = [] := rfl
theorem md_119 : E.md 119 = [] := rfl
theorem md_120 : E.md 120 = [] := rfl
theorem md_121 : E.md 121 = [] := rfl
theorem md_122 : E.md 122 = [] := rfl
theorem md_123 : E.md 123 = [] := rfl
theorem md_124 : E.md 124 = [] := rfl
theorem md_125 : E.md 125 = [] := rfl
theorem md_130 : E.md 130 = [] := rfl
theorem md_131 : E.md 131 = [] := rfl
theorem md_132 : E.md 132 = [] := rfl
theorem md_133 : E.md 133 = [] := rfl
theorem md_134 : E.md 134 = [] := rfl
theorem md_135 : E.md 135 = [] := rfl
theorem md_136 : E.md 136 = [] := rfl
theorem md_137 : E.md 137 = [] := rfl
theorem md_138 : E.md 138 = [] := rfl
theorem md_139 : E.md 139 = [] := rfl
theorem md_140 : E.md 140 = [.«mut»] := rfl
theorem md_141 : E.md 141 = [.give] := rfl
theorem md_142 : E.md 142 = [] := rfl
theorem md_143 : E.md 143 = [] := rfl
theorem md_144 : E.md 144 = [] := rfl
theorem md_150 : E.md 150 = [] := rfl
theorem md_151 : E.md 151 = [] := rfl
theorem md_152 : E.md 152 = [] := rfl
theorem md_153 : E.md 153 = [] := rfl
theorem md_154 : E.md 154 = [] := rfl
theorem md_155 : E.md 155 = [] := rfl
theorem md_158 : E.md 158 = [] := rfl
theorem md_161 : E.md 161 = [] := rfl
theorem tr_3 : E.tree 3 = false := rfl
theorem tr_4 : E.tree 4 = false := rfl
theorem tr_5 : E.tree 5 = false := rfl
theorem tr_6 : E.tree 6 = false := rfl
theorem tr_7 : E.tree 7 = false := rfl
theorem tr_8 : E.tree 8 = false := rfl
theorem tr_9 : E.tree 9 = false := rfl
theorem tr_10 : E.tree 10 = false := rfl
theorem tr_11 : E.tree 11 = false := rfl
theorem tr_12 : E.tree 12 = false := rfl
theorem tr_13 : E.tree 13 = false := rfl
theorem tr_14 : E.tree 14 = false := rfl
theorem tr_15 : E.tree 15 = false := rfl
theorem tr_16 : E.tree 16 = false := rfl
theorem tr_17 : E.tree 17 = false := rfl
theorem tr_18 : E.tree 18 = false := rfl
theorem tr_19 : E.tree 19 = false := rfl
theorem tr_20 : E.tree 20 = false := rfl
theorem tr_21 : E.tree 21 = false := rfl
theorem tr_22 : E.tree 22 = false := rfl
theorem tr_23 : E.tree 23 = false := rfl
theorem tr_24 : E.tree 24 = false := rfl
theorem tr_25 : E.tree 25 = false := rfl
theorem tr_26 : E.tree 26 = false := rfl
theorem tr_27 : E.tree 27 = false := rfl
theorem tr_28 : E.tree 28 = false := rfl
theorem tr_29 : E.tree 29 = false := rfl
theorem tr_30 : E.tree 30 = false := rfl
theorem tr_31 : E.tree 31 = false := rfl
theorem tr_32 : E.tree 32 = false := rfl
theorem tr_33 : E.tree 33 = false := rfl
theorem tr_34 : E.tree 34 = false := rfl
theorem tr_35 : E.tree 35 = false := rfl
theorem tr_36 : E.tree 36 = false := rfl
theorem tr_37 : E.tree 37 = false := rfl
theorem tr_38 : E.tree 38 = false := rfl
theorem tr_39 : E.tree 39 = false := rfl
theorem tr_40 : E.tree 40 = false := rfl
theorem tr_41 : E.tree 41 = false := rfl
theorem tr_42 : E.tree 42 = false := rfl
theorem tr_43 : E.tree 43 = false := rfl
theorem tr_44 : E.tree 44 = false := rfl
theorem tr_45 : E.tree 45 = false := rfl
theorem tr_46 : E.tree 46 = false := rfl
theorem tr_47 : E.tree 47 = false := rfl
theorem tr_48 : E.tree 48 = false := rfl
theorem tr_49 : E.tree 49 = false := rfl
theorem tr_50 : E.tree 50 = false := rfl
theorem tr_51 : E.tree 51 = false := rfl
theorem tr_52 : E.tree 52 = false := rfl
theorem tr_53 : E.tree 53 = false := rfl
theorem tr_54 : E.tree 54 = false := rfl
theorem tr_55 : E.tree 55 = false := rfl
theorem tr_56 : E.tree 56 = false := rfl
theorem tr_57 : E.tree 57 = false := rfl
theorem tr_58 : E.tree 58 = false := rfl
theorem tr_60 : E.tree 60 = false := rfl
theorem tr_61 : E.tree 61 = false := rfl
theorem tr_62 : E.tree 62 = false := rfl
theorem tr_63 : E.tree 63 = false := rfl
theorem tr_64 : E.tree 64 = false := rfl
theorem tr_65 : E.tree 65 = false := rfl
theorem tr_66 : E.tree 66 = false := rfl
theorem tr_67 : E.tree 67 = false := rfl
theorem tr_68 : E.tree 68 = false := rfl
theorem tr_69 : E.tree 69 = false := rfl
theorem tr_70 : E.tree 70 = false := rfl
theorem tr_71 : E.tree 71 = false := rfl
theorem tr_72 : E.tree 72 = false := rfl
theorem tr_73 : E.tree 73 = false := rfl
theorem tr_74 : E.tree 74 = false := rfl
theorem tr_75 : E.tree 75 = false := rfl
theorem tr_76 : E.tree 76 = false := rfl
theorem tr_77 : E.tree 77 = false := rfl
theorem tr_78 : E.tree 78 = false := rfl
theorem tr_79 : E.tree 79 = false := rfl
theorem tr_81 : E.tree 81 = false := rfl
theorem tr_82 : E.tree 82 = false := rfl
theorem tr_83 : E.tree 83 = false := rfl
theorem tr_84 : E.tree 84 = false := rfl
theorem tr_85 : E.tree 85 = false := rfl
theorem tr_86 : E.tree 86 = false := rfl
theorem tr_87 : E.tree 87 = false := rfl
theorem tr_88 : E.tree 88 = false := rfl
theorem tr_89 : E.tree 89 = false := rfl
theorem tr_90 : E.tree 90 = false := rfl
theorem tr_91 : E.tree 91 = false := rfl
theorem tr_92 : E.tree 92 = false := rfl
theorem tr_93 : E.tree 93 = false := rfl
theorem tr_94 : E.tree 94 = false := rfl
theorem tr_95 : E.tree 95 = false := rfl
theorem tr_96 : E.tree 96 = false := rfl
theorem tr_97 : E.tree 97 = false := rfl
theorem tr_98 : E.tree 98 = false := rfl
theorem tr_99 : E.tree 99 = false := rfl
theorem tr_100 : E.tree 100 = false := rfl
theorem tr_101 : E.tree 101 = false := rfl
theorem tr_102 : E.tree 102 = false := rfl
theorem tr_103 : E.tree 103 = false := rfl
theorem tr_105 : E.tree 105 = false := rfl
theorem tr_106 : E.tree 106 = false := rfl
theorem tr_107 : E.tree 107 = false := rfl
theorem tr_108 : E.tree 108 = false := rfl
theorem tr_109 : E.tree 109 = false := rfl
theorem tr_110 : E.tree 110 = false := rfl
theorem tr_111 : E.tree 111 = false := rfl
theorem tr_112 : E.tree 112 = false := rfl
theorem tr_113 : E.tree 113 = false := rfl
theorem tr_114 : E.tree 114 = false := rfl
theorem tr_115 : E.tree 115 = false := rfl
theorem tr_116 : E.tree 116 = false := rfl
theorem tr_117 : E.tree 117 = false := rfl
theorem tr_118 : E.tree 118 = false := rfl
theorem tr_119 : E.tree 119 = false := rfl
theorem tr_120 : E.tree 120 = false := rfl
theorem tr_121 : E.tree 121 = false := rfl
theorem tr_122 : E.tree 122 = false := rfl
theorem tr_123 : E.tree 123 = false := rfl
theorem tr_124 : E.tree 124 = false := rfl
theorem tr_125 : E.tree 125 = false := rfl
theorem tr_130 : E.tree 130 = false := rfl
theorem tr_131 : E.tree 131 = false := rfl
theorem tr_132 : E.tree 132 = false := rfl
theorem tr_133 : E.tree 133 = false := rfl
theorem tr_134 : E.tree 134 = false := rfl
theorem tr_135 : E.tree 135 = false := rfl
theorem tr_136 : E.tree 136 = false := rfl
theorem tr_137 : E.tree 137 = false := rfl
theorem tr_138 : E.tree 138 = false := rfl
theorem tr_139 : E.tree 139 = false := rfl
theorem tr_142 : E.tree 142 = false := rfl
theorem tr_143 : E.tree 143 = false := rfl
theorem tr_144 : E.tree 144 = false := rfl
theorem tr_150 : E.tree 150 = true := rfl
theorem tr_151 : E.tree 151 = false := rfl
theorem tr_152 : E.tree 152 = false := rfl
theorem tr_153 : E.tree 153 = false := rfl
theorem tr_154 : E.tree 154 = false := rfl
theorem tr_155 : E.tree 155 = false := rfl
theorem tr_158 : E.tree 158 = false := rfl
theorem tr_161 : E.tree 161 = false := rfl
theorem MDS : type_of% (And.intro (And.intro (And.intro (And.intro (And.intro (And.intro (And.intro (And.intro @md_3 @md_4) (And.intro @md_5 @md_6)) (And.intro (And.intro @md_7 @md_8) (And.intro @md_9 @md_10))) (And.intro (And.intro (And.intro @md_11 @md_12) (And.intro @md_13 @md_14)) (And.intro (And.intro @md_15 @md_16) (And.intro @md_17 (And.intro @md_18 @md_19))))) (And.intro (And.intro (And.intro (And.intro @md_20 @md_21) (And.intro @md_22 @md_23)) (And.intro (And.intro @md_24 @md_25) (And.intro @md_26 (And.intro @md_27 @md_28)))) (And.intro (And.intro (And.intro @md_29 @md_30) (And.intro @md_31 @md_32)) (And.intro (And.intro @md_33 @md_34) (And.intro @md_35 (And.intro @md_36 @md_37)))))) (And.intro (And.intro (And.intro (And.intro (And.intro @md_38 @md_39) (And.intro @md_40 @md_41)) (And.intro (And.intro @md_42 @md_43) (And.intro @md_44 (And.intro @md_45 @md_46)))) (And.intro (And.intro (And.intro @md_47 @md_48) (And.intro @md_49 @md_50)) (And.intro (And.intro @md_51 @md_52) (And.intro @md_53 (And.intro @md_54 @md_55))))) (And.intro (And.intro (And.intro (And.intro @md_56 @md_57) (And.intro @md_58 @md_59)) (And.intro (And.intro @md_60 @md_61) (And.intro @md_62 (And.intro @md_63 @md_64)))) (And.intro (And.intro (And.intro @md_65 @md_66) (And.intro @md_67 @md_68)) (And.intro (And.intro @md_69 @md_70) (And.intro @md_71 (And.intro @md_72 @md_73))))))) (And.intro (And.intro (And.intro (And.intro (And.intro (And.intro @md_74 @md_75) (And.intro @md_76 @md_77)) (And.intro (And.intro @md_78 @md_79) (And.intro @md_81 @md_82))) (And.intro (And.intro (And.intro @md_83 @md_84) (And.intro @md_85 @md_86)) (And.intro (And.intro @md_87 @md_88) (And.intro @md_89 (And.intro @md_90 @md_91))))) (And.intro (And.intro (And.intro (And.intro @md_92 @md_93) (And.intro @md_94 @md_95)) (And.intro (And.intro @md_96 @md_97) (And.intro @md_98 (And.intro @md_99 @md_100)))) (And.intro (And.intro (And.intro @md_101 @md_102) (And.intro @md_103 @md_105)) (And.intro (And.intro @md_106 @md_107) (And.intro @md_108 (And.intro @md_109 @md_110)))))) (And.intro (And.intro (And.intro (And.intro (And.intro @md_111 @md_112) (And.intro @md_113 @md_114)) (And.intro (And.intro @md_115 @md_116) (And.intro @md_117 (And.intro @md_118 @md_119)))) (And.intro (And.intro (And.intro @md_120 @md_121) (And.intro @md_122 @md_123)) (And.intro (And.intro @md_124 @md_125) (And.intro @md_130 (And.intro @md_131 @md_132))))) (And.intro (And.intro (And.intro (And.intro @md_133 @md_134) (And.intro @md_135 @md_136)) (And.intro (And.intro @md_137 @md_138) (And.intro @md_139 (And.intro @md_140 @md_141)))) (And.intro (And.intro (And.intro @md_142 @md_143) (And.intro @md_144 @md_150)) (And.intro (And.intro @md_151 @md_152) (And.intro @md_153 (And.intro @md_154 @md_155)))))))) (And.intro (And.intro (And.intro (And.intro (And.intro (And.intro (And.intro @md_158 @md_161) (And.intro @tr_3 @tr_4)) (And.intro (And.intro @tr_5 @tr_6) (And.intro @tr_7 @tr_8))) (And.intro (And.intro (And.intro @tr_9 @tr_10) (And.intro @tr_11 @tr_12)) (And.intro (And.intro @tr_13 @tr_14) (And.intro @tr_15 (And.intro @tr_16 @tr_17))))) (And.intro (And.intro (And.intro (And.intro @tr_18 @tr_19) (And.intro @tr_20 @tr_21)) (And.intro (And.intro @tr_22 @tr_23) (And.intro @tr_24 (And.intro @tr_25 @tr_26)))) (And.intro (And.intro (And.intro @tr_27 @tr_28) (And.intro @tr_29 @tr_30)) (And.intro (And.intro @tr_31 @tr_32) (And.intro @tr_33 (And.intro @tr_34 @tr_35)))))) (And.intro (And.intro (And.intro (And.intro (And.intro @tr_36 @tr_37) (And.intro @tr_38 @tr_39)) (And.intro (And.intro @tr_40 @tr_41) (And.intro @tr_42 (And.intro @tr_43 @tr_44)))) (And.intro (And.intro (And.intro @tr_45 @tr_46) (And.intro @tr_47 @tr_48)) (And.intro (And.intro @tr_49 @tr_50) (And.intro @tr_51 (And.intro @tr_52 @tr_53))))) (And.intro (And.intro (And.intro (And.intro @tr_54 @tr_55) (And.intro @tr_56 @tr_57)) (And.intro (And.intro @tr_58 @tr_60) (And.intro @tr_61 (And.intro @tr_62 @tr_63)))) (And.intro (And.intro (And.intro @tr_64 @tr_65) (And.intro @tr_66 @tr_67)) (And.intro (And.intro @tr_68 @tr_69) (And.intro @tr_70 (And.intro @tr_71 @tr_72))))))) (And.intro (And.intro (And.intro (And.intro (And.intro (And.intro @tr_73 @tr_74) (And.intro @tr_75 @tr_76)) (And.intro (And.intro @tr_77 @tr_78) (And.intro @tr_79 (And.intro @tr_81 @tr_82)))) (And.intro (And.intro (And.intro @tr_83 @tr_84) (And.intro @tr_85 @tr_86)) (And.intro (And.intro @tr_87 @tr_88) (And.intro @tr_89 (And.intro @tr_90 @tr_91))))) (And.intro (And.intro (And.intro (And.intro @tr_92 @tr_93) (And.intro @tr_94 @tr_95)) (And.intro (And.intro @tr_96 @tr_97) (And.intro @tr_98 (And.intro @tr_99 @tr_100)))) (And.intro (And.intro (And.intro @tr_101 @tr_102) (And.intro @tr_103 @tr_105)) (And.intro (And.intro @tr_106 @tr_107) (And.intro @tr_108 (And.intro @tr_109 @tr_110)))))) (And.intro (And.intro (And.intro (And.intro (And.intro @tr_111 @tr_112) (And.intro @tr_113 @tr_114)) (And.intro (And.intro @tr_115 @tr_116) (And.intro @tr_117 (And.intro @tr_118 @tr_119)))) (And.intro (And.intro (And.intro @tr_120 @tr_121) (And.intro @tr_122 @tr_123)) (And.intro (And.intro @tr_124 @tr_125) (And.intro @tr_130 (And.intro @tr_131 @tr_132))))) (And.intro (And.intro (And.intro (And.intro @tr_133 @tr_134) (And.intro @tr_135 @tr_136)) (And.intro (And.intro @tr_137 @tr_138) (And.intro @tr_139 (And.intro @tr_142 @tr_143)))) (And.intro (And.intro (And.intro @tr_144 @tr_150) (And.intro @tr_151 @tr_152)) (And.intro (And.intro @tr_153 @tr_154) (And.intro @tr_155 (And.intro @tr_158 @tr_161))))))))) := (And.intro (And.intro (And.intro (And.intro (And.intro (And.intro (And.intro (And.intro @md_3 @md_4) (And.intro @md_5 @md_6)) (And.intro (And.intro @md_7 @md_8) (And.intro @md_9 @md_10))) (And.intro (And.intro (And.intro @md_11 @md_12) (And.intro @md_13 @md_14)) (And.intro (And.intro @md_15 @md_16) (And.intro @md_17 (And.intro @md_18 @md_19))))) (And.intro (And.intro (And.intro (And.intro @md_20 @md_21) (And.intro @md_22 @md_23)) (And.intro (And.intro @md_24 @md_25) (And.intro @md_26 (And.intro @md_27 @md_28)))) (And.intro (And.intro (And.intro @md_29 @md_30) (And.intro @md_31 @md_32)) (And.intro (And.intro @md_33 @md_34) (And.intro @md_35 (And.intro @md_36 @md_37)))))) (And.intro (And.intro (And.intro (And.intro (And.intro @md_38 @md_39) (And.intro @md_40 @md_41)) (And.intro (And.intro @md_42 @md_43) (And.intro @md_44 (And.intro @md_45 @md_46)))) (And.intro (And.intro (And.intro @md_47 @md_48) (And.intro @md_49 @md_50)) (And.intro (And.intro @md_51 @md_52) (And.intro @md_53 (And.intro @md_54 @md_55))))) (And.intro (And.intro (And.intro (And.intro @md_56 @md_57) (And.intro @md_58 @md_59)) (And.intro (And.intro @md_60 @md_61) (And.intro @md_62 (And.intro @md_63 @md_64)))) (And.intro (And.intro (And.intro @md_65 @md_66) (And.intro @md_67 @md_68)) (And.intro (And.intro @md_69 @md_70) (And.intro @md_71 (And.intro @md_72 @md_73))))))) (And.intro (And.intro (And.intro (And.intro (And.intro (And.intro @md_74 @md_75) (And.intro @md_76 @md_77)) (And.intro (And.intro @md_78 @md_79) (And.intro @md_81 @md_82))) (And.intro (And.intro (And.intro @md_83 @md_84) (And.intro @md_85 @md_86)) (And.intro (And.intro @md_87 @md_88) (And.intro @md_89 (And.intro @md_90 @md_91))))) (And.intro (And.intro (And.intro (And.intro @md_92 @md_93) (And.intro @md_94 @md_95)) (And.intro (And.intro @md_96 @md_97) (And.intro @md_98 (And.intro @md_99 @md_100)))) (And.intro (And.intro (And.intro @md_101 @md_102) (And.intro @md_103 @md_105)) (And.intro (And.intro @md_106 @md_107) (And.intro @md_108 (And.intro @md_109 @md_110)))))) (And.intro (And.intro (And.intro (And.intro (And.intro @md_111 @md_112) (And.intro @md_113 @md_114)) (And.intro (And.intro @md_115 @md_116) (And.intro @md_117 (And.intro @md_118 @md_119)))) (And.intro (And.intro (And.intro @md_120 @md_121) (And.intro @md_122 @md_123)) (And.intro (And.intro @md_124 @md_125) (And.intro @md_130 (And.intro @md_131 @md_132))))) (And.intro (And.intro (And.intro (And.intro @md_133 @md_134) (And.intro @md_135 @md_136)) (And.intro (And.intro @md_137 @md_138) (And.intro @md_139 (And.intro @md_140 @md_141)))) (And.intro (And.intro (And.intro @md_142 @md_143) (And.intro @md_144 @md_150)) (And.intro (And.intro @md_151 @md_152) (And.intro @md_153 (And.intro @md_154 @md_155)))))))) (And.intro (And.intro (And.intro (And.intro (And.intro (And.intro (And.intro @md_158 @md_161) (And.intro @tr_3 @tr_4)) (And.intro (And.intro @tr_5 @tr_6) (And.intro @tr_7 @tr_8))) (And.intro (And.intro (And.intro @tr_9 @tr_10) (And.intro @tr_11 @tr_12)) (And.intro (And.intro @tr_13 @tr_14) (And.intro @tr_15 (And.intro @tr_16 @tr_17))))) (And.intro (And.intro (And.intro (And.intro @tr_18 @tr_19) (And.intro @tr_20 @tr_21)) (And.intro (And.intro @tr_22 @tr_23) (And.intro @tr_24 (And.intro @tr_25 @tr_26)))) (And.intro (And.intro (And.intro @tr_27 @tr_28) (And.intro @tr_29 @tr_30)) (And.intro (And.intro @tr_31 @tr_32) (And.intro @tr_33 (And.intro @tr_34 @tr_35)))))) (And.intro (And.intro (And.intro (And.intro (And.intro @tr_36 @tr_37) (And.intro @tr_38 @tr_39)) (And.intro (And.intro @tr_40 @tr_41) (And.intro @tr_42 (And.intro @tr_43 @tr_44)))) (And.intro (And.intro (And.intro @tr_45 @tr_46) (And.intro @tr_47 @tr_48)) (And.intro (And.intro @tr_49 @tr_50) (And.intro @tr_51 (And.intro @tr_52 @tr_53))))) (And.intro (And.intro (And.intro (And.intro @tr_54 @tr_55) (And.intro @tr_56 @tr_57)) (And.intro (And.intro @tr_58 @tr_60) (And.intro @tr_61 (And.intro @tr_62 @tr_63)))) (And.intro (And.intro (And.intro @tr_64 @tr_65) (And.intro @tr_66 @tr_67)) (And.intro (And.intro @tr_68 @tr_69) (And.intro @tr_70 (And.intro @tr_71 @tr_72))))))) (And.intro (And.intro (And.intro (And.intro (And.intro (And.intro @tr_73 @tr_74) (And.intro @tr_75 @tr_76)) (And.intro (And.intro @tr_77 @tr_78) (And.intro @tr_79 (And.intro @tr_81 @tr_82)))) (And.intro (And.intro (And.intro @tr_83 @tr_84) (And.intro @tr_85 @tr_86)) (And.intro (And.intro @tr_87 @tr_88) (And.intro @tr_89 (And.intro @tr_90 @tr_91))))) (And.intro (And.intro (And.intro (And.intro @tr_92 @tr_93) (And.intro @tr_94 @tr_95)) (And.intro (And.intro @tr_96 @tr_97) (And.intro @tr_98 (And.intro @tr_99 @tr_100)))) (And.intro (And.intro (And.intro @tr_101 @tr_102) (And.intro @tr_103 @tr_105)) (And.intro (And.intro @tr_106 @tr_107) (And.intro @tr_108 (And.intro @tr_109 @tr_110)))))) (And.intro (And.intro (And.intro (And.intro (And.intro @tr_111 @tr_112) (And.intro @tr_113 @tr_114)) (And.intro (And.intro @tr_115 @tr_116) (And.intro @tr_117 (And.intro @tr_118 @tr_119)))) (And.intro (And.intro (And.intro @tr_120 @tr_121) (And.intro @tr_122 @tr_123)) (And.intro (And.intro @tr_124 @tr_125) (And.intro @tr_130 (And.intro @tr_131 @tr_132))))) (And.intro (And.intro (And.intro (And.intro @tr_133 @tr_134) (And.intro @tr_135 @tr_136)) (And.intro (And.intro @tr_137 @tr_138) (And.intro @tr_139 (And.intro @tr_142 @tr_143)))) (And.intro (And.intro (And.intro @tr_144 @tr_150) (And.intro @tr_151 @tr_152)) (And.intro (And.intro @tr_153 @tr_154) (And.intro @tr_155 (And.intro @tr_158 @tr_161)))))))))
theorem TIS : type_of% (And.intro (And.intro (And.intro (And.intro (And.intro @ti3 (And.intro @ti4 @ti5)) (And.intro (And.intro @ti9 @st9) (And.intro @ti22 @sl22))) (And.intro (And.intro (And.intro @ti23 @sl23) (And.intro @ti24 @sl24)) (And.intro (And.intro @ti26 @is26) (And.intro @ti28 @is28)))) (And.intro (And.intro (And.intro @ti33 (And.intro @sl33 @ti35)) (And.intro (And.intro @sl35 @ti37) (And.intro @sl37 @ti39))) (And.intro (And.intro (And.intro @is39 @ti41) (And.intro @is41 @ti47)) (And.intro (And.intro @sl47 @ti51) (And.intro @sl51 @ti59))))) (And.intro (And.intro (And.intro (And.intro @sl59 (And.intro @ti61 @is61)) (And.intro (And.intro @ti63 @is63) (And.intro @ti66 @is66))) (And.intro (And.intro (And.intro @ti68 @is68) (And.intro @ti70 @is70)) (And.intro (And.intro @ti72 @is72) (And.intro @ti74 @na74)))) (And.intro (And.intro (And.intro (And.intro @ar74 @ns74) (And.intro @ti83 @sl83)) (And.intro (And.intro @ti85 @is85) (And.intro @ti87 @is87))) (And.intro (And.intro (And.intro @ti113 @is113) (And.intro @ti160 @sl160)) (And.intro (And.intro @ti161 @na161) (And.intro @ar161 @ns161)))))) := (And.intro (And.intro (And.intro (And.intro (And.intro @ti3 (And.intro @ti4 @ti5)) (And.intro (And.intro @ti9 @st9) (And.intro @ti22 @sl22))) (And.intro (And.intro (And.intro @ti23 @sl23) (And.intro @ti24 @sl24)) (And.intro (And.intro @ti26 @is26) (And.intro @ti28 @is28)))) (And.intro (And.intro (And.intro @ti33 (And.intro @sl33 @ti35)) (And.intro (And.intro @sl35 @ti37) (And.intro @sl37 @ti39))) (And.intro (And.intro (And.intro @is39 @ti41) (And.intro @is41 @ti47)) (And.intro (And.intro @sl47 @ti51) (And.intro @sl51 @ti59))))) (And.intro (And.intro (And.intro (And.intro @sl59 (And.intro @ti61 @is61)) (And.intro (And.intro @ti63 @is63) (And.intro @ti66 @is66))) (And.intro (And.intro (And.intro @ti68 @is68) (And.intro @ti70 @is70)) (And.intro (And.intro @ti72 @is72) (And.intro @ti74 @na74)))) (And.intro (And.intro (And.intro (And.intro @ar74 @ns74) (And.intro @ti83 @sl83)) (And.intro (And.intro @ti85 @is85) (And.intro @ti87 @is87))) (And.intro (And.intro (And.intro @ti113 @is113) (And.intro @ti160 @sl160)) (And.intro (And.intro @ti161 @na161) (And.intro @ar161 @ns161))))))
end Go.Proofs.YtaojmienjikfbaaGreatDoor.Flat
