/-
The program's functions, and how they are reckoned with: tables.
-/
import Derived.Test.YtecffiaopdancaaFlatM5
import Derived.Test.YtecffiaopdancaaProg
import Derived.KernelRfl
set_option linter.unusedVariables false
set_option linter.unusedSimpArgs false
namespace Go.Proofs.Ytecffiaopdancaa.Flat
def keepT : Nat → Nat → List Nat
  | 14, 5 => [0, 1, 5]
  | 17, 3 => [0, 3, 4]
  | 18, 3 => [0, 3, 4]
  | 21, 4 => [0, 1, 5]
  | 22, 4 => [0, 1, 5]
  | 24, 3 => [1, 2, 3, 7, 8]
  | 26, 3 => [1, 2, 7, 12, 13, 14]
  | 29, 2 => [0, 1, 5]
  | 30, 2 => [0, 1, 5]
  | 31, 7 => [2, 3, 5, 6]
  | 32, 7 => [2, 3, 5, 25, 26]
  | 33, 3 => [1, 2, 3, 4, 5, 11, 12]
  | 34, 3 => [1, 2, 3, 4, 5, 11, 16, 17, 18]
  | 37, 8 => [1, 7, 9, 10, 11, 12, 13]
  | 37, 4 => [1, 7, 9, 10, 11]
  | 38, 3 => [0, 3, 4]
  | 39, 3 => [0, 3, 4]
  | 41, 3 => [7, 9, 10, 16, 17, 18]
  | 42, 4 => [0, 1, 5]
  | 43, 4 => [0, 1, 5]
  | 44, 4 => [0, 1, 5]
  | 45, 2 => [0, 1, 5]
  | 46, 2 => [0, 1, 5]
  | 48, 2 => [0, 1, 5]
  | 49, 2 => [0, 1, 5]
  | 51, 4 => [0, 6, 7]
  | 53, 2 => [0, 5, 6, 7]
  | 55, 3 => [1, 5, 8, 9, 10]
  | 59, 6 => [1, 3, 4, 5]
  | 59, 3 => [1, 3, 4]
  | 60, 6 => [1, 3, 4, 5, 10, 11, 12, 18, 19, 20]
  | 60, 3 => [1, 3, 10, 11, 12]
  | 61, 4 => [0, 1, 5]
  | 62, 2 => [0, 1, 5]
  | 63, 2 => [0, 1, 5]
  | 64, 8 => [2, 5, 6, 7]
  | 64, 5 => [2, 5, 6]
  | 65, 8 => [2, 5, 6, 7, 23]
  | 65, 5 => [2, 5, 23]
  | 66, 7 => [2, 3, 4, 5, 13, 14]
  | 67, 15 => [2, 3, 4, 5, 13, 61, 62]
  | 67, 7 => [2, 3, 4, 5, 13, 41, 42, 43]
  | 68, 6 => [1, 2, 3, 6, 8, 9, 10]
  | 69, 7 => [1, 2, 3, 6, 8, 9, 28, 29]
  | 78, 2 => [0, 1, 7, 8]
  | 81, 5 => [0, 1, 5]
  | 83, 9 => [0, 3, 6]
  | 83, 3 => [0, 3, 5]
  | 84, 3 => [0, 3, 4]
  | 86, 4 => [1, 28, 29, 30]
  | 87, 4 => [0, 1, 5]
  | 88, 2 => [0, 1, 5]
  | 89, 7 => [1, 5, 7]
  | 89, 3 => [0, 1, 5, 6]
  | 90, 3 => [0, 3, 4]
  | 91, 3 => [0, 1, 5, 6]
  | 93, 3 => [1, 5, 8, 9]
  | 94, 3 => [2, 5, 8, 9, 10]
  | 104, 3 => [0, 3, 4]
  | 105, 4 => [0, 3, 4, 5]
  | 108, 7 => [4, 5]
  | 109, 8 => [0, 2, 3]
  | 111, 3 => [3, 7, 8, 9]
  | 114, 2 => [0, 1, 7, 8]
  | 119, 2 => [1, 3]
  | 122, 5 => [2, 3, 4, 5, 9, 10]
  | 125, 3 => [1, 4, 5, 13, 14, 15]
  | 126, 5 => [2, 3, 4, 5, 9, 25, 26]
  | 132, 3 => [1, 2, 5]
  | 133, 4 => [1, 3]
  | 134, 2 => [1, 2, 3, 7]
  | 135, 3 => [3, 7, 8, 9]
  | 137, 4 => [1, 2, 15, 16, 17]
  | 139, 4 => [2, 3, 5]
  | 140, 3 => [1, 2, 3, 4]
  | 143, 3 => [2, 3, 14, 15, 16]
  | 148, 3 => [0, 3, 4]
  | 149, 3 => [0, 2, 3, 4]
  | 150, 2 => [0, 3]
  | 151, 3 => [0, 3, 4]
  | 159, 2 => [0, 5, 6, 7]
  | 161, 3 => [1, 2, 3, 4]
  | 165, 3 => [3, 7, 8, 9]
  | 166, 11 => [0, 11, 12]
  | 168, 4 => [0, 1, 5]
  | 169, 2 => [0, 1, 5]
  | 170, 2 => [0, 1, 5]
  | 186, 7 => [0, 4, 5, 6, 7, 21, 22, 23]
  | 186, 3 => [0, 4, 5, 6]
  | 188, 2 => [0, 1, 7, 8]
  | 190, 2 => [0, 3, 7, 8]
  | 197, 2 => [0, 3]
  | 204, 2 => [0, 1, 5]
  | 205, 15 => [5, 6, 9]
  | 205, 10 => [0, 5, 6, 7, 8]
  | 205, 7 => [0, 5, 6, 7]
  | _, _ => []
def planT : Nat → Nat → List (Bool × Nat)
  | 3, 17 => [(false, 0), (false, 1), (true, 2), (false, 3), (false, 4)]
  | 4, 10 => [(false, 0), (false, 1), (true, 2), (false, 3), (false, 4)]
  | 5, 8 => [(false, 0), (false, 2), (true, 1), (false, 3), (false, 4), (false, 5)]
  | 5, 14 => [(false, 0), (false, 1), (true, 2), (false, 3), (false, 4)]
  | 5, 16 => [(false, 0), (false, 1), (true, 2), (false, 3), (false, 4)]
  | 6, 17 => [(false, 0), (false, 1), (true, 2), (false, 3), (false, 4)]
  | 7, 11 => [(false, 0), (false, 2), (false, 4), (false, 6), (true, 1), (true, 3), (true, 5), (false, 7), (false, 8), (false, 9)]
  | 7, 15 => [(false, 0), (false, 1), (false, 2), (false, 3), (true, 4), (false, 5), (false, 6)]
  | 7, 22 => [(false, 0), (false, 1), (true, 2), (false, 3), (false, 4)]
  | 7, 38 => [(false, 0), (false, 2), (false, 4), (false, 6), (true, 1), (true, 3), (true, 5), (false, 7), (false, 8), (false, 9)]
  | 9, 10 => [(false, 0), (false, 1), (true, 2), (false, 3), (false, 4)]
  | 10, 10 => [(false, 0), (false, 1), (true, 2), (false, 3), (false, 4)]
  | 11, 8 => [(false, 0), (false, 2), (false, 4), (false, 5), (true, 1), (true, 3), (false, 6), (false, 7)]
  | 11, 14 => [(false, 0), (false, 1), (true, 2), (false, 3), (false, 4)]
  | 11, 16 => [(false, 0), (false, 1), (true, 2), (false, 3), (false, 4)]
  | 12, 10 => [(false, 0), (false, 1), (true, 2), (false, 3), (false, 4)]
  | 21, 6 => [(false, 0), (false, 1), (false, 2), (false, 3), (false, 4), (false, 5), (false, 6), (false, 7), (false, 8), (false, 9)]
  | 22, 6 => [(false, 0), (false, 1), (false, 2), (false, 3), (false, 4), (false, 5), (false, 6), (false, 7), (false, 8)]
  | 32, 3 => [(false, 0), (false, 1), (true, 2), (false, 3), (false, 4)]
  | 42, 6 => [(false, 0), (false, 1), (false, 2), (false, 3), (false, 4), (false, 5), (false, 6), (false, 7), (false, 8)]
  | 43, 6 => [(false, 0), (false, 1), (false, 2), (false, 3), (false, 4), (false, 5), (false, 6), (false, 7), (false, 8), (false, 9)]
  | 44, 6 => [(false, 0), (false, 1), (false, 2), (false, 3), (false, 4), (false, 5), (false, 6), (false, 7), (false, 8), (false, 9)]
  | 53, 4 => [(false, 0), (false, 1), (false, 2), (false, 3), (false, 4), (false, 5), (false, 6), (false, 7), (false, 8), (false, 9), (false, 10), (false, 11), (false, 12), (false, 13), (false, 14), (false, 15), (false, 16), (false, 17), (false, 18), (false, 19), (false, 20), (false, 21), (false, 22), (false, 23), (false, 24), (false, 25), (false, 26), (false, 27), (false, 28)]
  | 61, 6 => [(false, 0), (false, 1), (false, 2), (false, 3), (false, 4), (false, 5), (false, 6), (false, 7), (false, 8), (false, 9)]
  | 66, 3 => [(false, 0), (false, 1), (false, 2), (false, 4), (false, 5), (false, 6), (true, 3), (false, 7), (false, 8), (false, 9)]
  | 83, 5 => [(false, 0), (false, 1), (false, 2), (false, 3), (false, 4), (false, 5)]
  | 87, 6 => [(false, 0), (false, 1), (false, 2), (false, 3), (false, 4), (false, 5), (false, 6), (false, 7), (false, 8), (false, 9)]
  | 107, 4 => [(false, 0), (false, 2), (true, 1), (false, 3), (false, 4), (false, 5), (false, 6)]
  | 109, 9 => [(false, 0), (false, 1), (false, 2), (true, 3), (true, 4), (false, 5), (false, 6), (false, 7)]
  | 112, 1 => [(false, 0), (false, 1), (false, 2), (false, 3), (false, 5), (false, 6), (false, 8), (false, 9), (true, 4), (true, 7), (true, 10), (false, 11), (false, 12)]
  | 121, 3 => [(false, 1), (false, 2), (false, 3), (false, 4), (false, 6), (false, 7), (false, 8), (false, 9), (false, 10), (true, 0), (true, 5), (false, 11), (false, 12), (false, 13)]
  | 122, 8 => [(false, 0), (false, 1), (false, 2), (false, 3), (false, 4), (false, 6), (false, 7), (false, 8), (false, 9), (false, 10), (true, 5), (false, 11), (false, 12)]
  | 126, 8 => [(false, 0), (false, 1), (false, 2), (false, 3), (false, 4), (false, 5), (false, 7), (false, 8), (false, 9), (false, 10), (false, 11), (false, 12), (true, 6), (false, 13), (false, 14)]
  | 134, 4 => [(false, 0), (false, 1), (false, 2), (false, 3), (false, 4), (false, 5)]
  | 139, 6 => [(false, 0), (false, 1), (false, 2), (false, 3), (false, 4), (false, 5), (false, 6), (false, 7), (false, 8), (false, 9), (false, 10), (false, 11)]
  | 140, 5 => [(false, 0), (false, 1), (false, 2), (false, 3), (false, 4), (false, 5), (false, 6), (true, 7), (true, 8), (false, 9), (false, 10), (false, 11)]
  | 143, 5 => [(false, 0), (false, 1), (false, 2), (true, 3), (true, 4), (false, 5), (false, 6), (false, 7)]
  | 149, 5 => [(false, 0), (false, 1), (false, 2), (true, 3), (true, 4), (false, 5), (false, 6), (false, 7)]
  | 150, 4 => [(false, 0), (false, 1), (false, 2), (false, 3), (false, 4), (false, 5), (false, 6), (false, 7), (false, 8), (false, 9), (false, 10), (false, 11), (false, 12), (false, 13), (false, 14), (false, 15), (false, 16), (false, 17), (false, 18), (false, 19), (false, 20), (false, 21), (false, 22), (false, 23), (false, 24), (false, 25), (false, 26), (false, 27), (false, 28), (false, 29), (false, 30), (false, 31), (false, 32), (false, 33), (false, 34), (false, 35), (false, 36), (false, 37)]
  | 152, 1 => [(false, 0), (false, 1), (false, 2), (false, 3), (false, 5), (false, 6), (false, 8), (false, 9), (true, 4), (true, 7), (true, 10), (false, 11), (false, 12)]
  | 155, 10 => [(false, 0), (false, 1), (false, 2), (true, 3), (true, 4), (false, 5), (false, 6), (false, 7)]
  | 157, 1 => [(false, 0), (false, 1), (false, 2), (false, 3), (true, 4), (false, 5), (false, 6)]
  | 159, 4 => [(false, 0), (false, 1), (false, 2), (false, 3), (false, 4), (false, 5), (false, 6), (false, 7), (false, 8), (false, 9), (false, 10), (false, 11), (false, 12), (false, 13), (false, 15), (false, 16), (true, 14), (false, 17), (false, 18)]
  | 166, 13 => [(false, 0), (false, 1), (false, 2), (false, 3), (false, 4), (false, 5), (false, 6), (false, 7), (false, 8)]
  | 166, 15 => [(false, 0), (false, 1), (false, 2), (false, 3), (false, 4), (false, 5), (true, 6), (true, 7), (false, 8), (false, 9), (false, 10)]
  | 167, 10 => [(false, 0), (false, 1), (false, 2), (false, 3), (false, 4), (false, 5), (false, 6)]
  | 167, 13 => [(false, 0), (false, 1), (false, 2), (false, 3), (false, 4), (false, 5), (true, 6), (true, 7), (false, 8), (false, 9), (false, 10)]
  | 168, 6 => [(false, 0), (false, 1), (false, 2), (false, 3), (false, 4), (false, 5), (false, 6), (false, 7), (false, 8), (false, 9)]
  | 171, 13 => [(false, 0), (false, 1), (false, 2), (false, 3), (false, 4), (false, 5), (false, 6), (false, 7), (false, 8), (false, 9), (true, 10), (false, 11), (false, 12), (false, 13)]
  | 172, 12 => [(false, 0), (false, 1), (false, 2), (false, 3), (false, 4), (true, 5), (false, 6), (false, 7), (false, 8), (false, 9), (false, 10), (false, 11), (false, 12), (false, 13), (false, 14), (false, 15), (false, 16), (false, 17), (false, 18), (false, 19)]
  | 180, 2 => [(false, 0), (false, 1), (false, 2), (false, 3), (false, 4), (false, 5), (false, 6), (false, 7), (false, 8), (false, 9), (false, 10), (false, 11), (false, 12)]
  | 180, 3 => [(false, 0), (false, 1), (false, 2), (false, 3), (false, 4), (false, 5), (false, 6), (false, 7), (false, 8), (false, 9)]
  | 183, 9 => [(false, 0), (false, 1), (false, 2), (false, 3), (true, 4), (false, 5), (false, 6)]
  | 183, 11 => [(false, 0), (false, 1), (false, 2), (false, 3), (true, 4), (false, 5), (false, 6)]
  | 190, 4 => [(false, 0), (false, 1), (false, 2), (false, 3), (false, 4), (false, 5)]
  | 197, 4 => [(false, 0), (false, 1), (false, 2), (false, 3), (false, 4), (false, 5), (false, 6), (false, 7), (false, 8), (false, 9), (false, 10), (false, 11), (false, 12), (false, 13), (false, 14), (false, 15), (false, 16), (false, 17), (false, 18), (false, 19), (false, 20), (false, 21), (false, 22), (false, 24), (false, 25), (false, 26), (false, 27), (false, 28), (true, 23), (false, 29), (false, 30)]
  | 199, 1 => [(false, 0), (false, 2), (true, 1), (false, 3), (false, 4), (false, 5), (false, 6)]
  | 200, 1 => [(false, 0), (false, 2), (true, 1), (false, 3), (false, 4), (false, 5), (false, 6)]
  | _, _ => []
def okT : List Nat := [3, 4, 5, 6, 7, 8, 9, 10, 11, 12, 13, 14, 15, 16, 17, 18, 19, 20, 21, 22, 23, 24, 25, 26, 27, 28, 29, 30, 31, 32, 33, 34, 35, 36, 38, 39, 40, 41, 42, 43, 44, 45, 46, 47, 48, 49, 50, 51, 52, 53, 54, 55, 56, 57, 58, 59, 60, 61, 62, 63, 64, 65, 66, 67, 70, 71, 72, 73, 74, 75, 76, 77, 78, 79, 80, 81, 82, 83, 84, 85, 86, 87, 88, 89, 90, 91, 92, 93, 94, 95, 96, 97, 98, 99, 100, 101, 102, 103, 104, 105, 106, 107, 108, 110, 111, 112, 113, 114, 115, 116, 117, 118, 119, 120, 121, 122, 123, 124, 125, 126, 127, 128, 129, 130, 131, 132, 133, 134, 135, 136, 137, 138, 139, 140, 141, 142, 143, 144, 145, 146, 147, 148, 149, 150, 151, 152, 153, 154, 155, 156, 157, 158, 159, 160, 161, 162, 163, 164, 165, 166, 167, 168, 169, 170, 171, 172, 173, 174, 175, 176, 177, 178, 179, 181, 182, 183, 184, 185, 186, 187, 188, 189, 190, 191, 192, 193, 194, 195, 196, 197, 198, 199, 200, 201, 202, 203, 204, 205]
noncomputable def E : Env := { P := Go.Proofs.Try.prog, md := fun _ => [], keep := keepT, kill := fun _ => false, plan := planT, ok := fun f => okT.contains f }
theorem hkill (n : Nat) : E.kill n = false := rfl
theorem hmd (n : Nat) : (E.md n).all (· == .ro) = true := rfl
theorem md_none (n : Nat) : E.md n = [] := rfl
theorem mixed : E.P.follows .mixedOrders = true := by kernel_rfl
/-- One function's check. -/
def good1 (P : Program) (plan : Nat → Nat → List (Bool × Nat)) (f : Nat) : Bool :=
  match P.funcs[f]? with
  | some fn => (match fn.body with | some c => codeOK (plan f) c | none => true) && !(fn.name == "runtime.NumGoroutine")
  | none => true
theorem good1_ok {E : Env} {l : List Nat} (ho : ∀ f, E.ok f = true → f ∈ l) (h : l.all (good1 E.P E.plan) = true) : Sound E := by
  intro f hf fn c hfn hc
  have h1 := List.all_eq_true.1 h f (ho f hf)
  simp -implicitDefEqProofs only [good1, hfn, hc, Bool.and_eq_true, Bool.not_eq_true', beq_eq_false_iff_ne, ne_eq] at h1
  exact h1
theorem sound : Sound E := good1_ok (l := okT) (fun f hf => by simpa [E] using hf) (by kernel_rfl)
abbrev noExt : Nat → Option (List AV → List (List AV) → Option (AV × List (List AV))) := fun _ => none
abbrev tBool : Nat := 4
theorem tagBool : tagOf E.P 4 = .bool := by kernel_rfl
theorem one_ne : (1 = 0) = False := by simp
theorem ti3 : tiOf E.P 3 = some { tag := Tag.int IntKind.i64, agg := false, size := 1, bytes := 8, zero := some (Value.int IntKind.i64 0), elem := 0, fields := [], eqs := none } := by kernel_rfl
theorem ti4 : tiOf E.P 4 = some { tag := Tag.bool, agg := false, size := 1, bytes := 1, zero := some (Value.bool false), elem := 0, fields := [], eqs := none } := by kernel_rfl
theorem ti5 : tiOf E.P 5 = some { tag := Tag.int IntKind.u8, agg := false, size := 1, bytes := 1, zero := some (Value.int IntKind.u8 0), elem := 0, fields := [], eqs := none } := by kernel_rfl
theorem ti22 : tiOf E.P 22 = some { tag := Tag.slice, agg := false, size := 1, bytes := 24, zero := some (Value.slice none 0 0), elem := 24, fields := [], eqs := none } := by kernel_rfl
theorem sl22 : isSliceT E.P 22 = true := by kernel_rfl
theorem ti24 : tiOf E.P 24 = some { tag := Tag.struct, agg := true, size := 4, bytes := 48, zero := some (Value.agg #[Value.int IntKind.i64 0, Value.int IntKind.i64 0, Value.int IntKind.i64 0, Value.slice none 0 0]), elem := 0, fields := [(0, 1, false), (1, 1, false), (2, 1, false), (3, 1, false)], eqs := none } := by kernel_rfl
theorem is24 : isStructT E.P 24 = true := by kernel_rfl
theorem ti25 : tiOf E.P 25 = some { tag := Tag.slice, agg := false, size := 1, bytes := 24, zero := some (Value.slice none 0 0), elem := 4, fields := [], eqs := none } := by kernel_rfl
theorem sl25 : isSliceT E.P 25 = true := by kernel_rfl
theorem ti29 : tiOf E.P 29 = some { tag := Tag.slice, agg := false, size := 1, bytes := 24, zero := some (Value.slice none 0 0), elem := 31, fields := [], eqs := none } := by kernel_rfl
theorem sl29 : isSliceT E.P 29 = true := by kernel_rfl
theorem ti31 : tiOf E.P 31 = some { tag := Tag.struct, agg := true, size := 4, bytes := 48, zero := some (Value.agg #[Value.int IntKind.i64 0, Value.int IntKind.i64 0, Value.int IntKind.i64 0, Value.slice none 0 0]), elem := 0, fields := [(0, 1, false), (1, 1, false), (2, 1, false), (3, 1, false)], eqs := none } := by kernel_rfl
theorem is31 : isStructT E.P 31 = true := by kernel_rfl
theorem ti39 : tiOf E.P 39 = some { tag := Tag.slice, agg := false, size := 1, bytes := 24, zero := some (Value.slice none 0 0), elem := 164, fields := [], eqs := none } := by kernel_rfl
theorem sl39 : isSliceT E.P 39 = true := by kernel_rfl
theorem ti41 : tiOf E.P 41 = some { tag := Tag.struct, agg := true, size := 2, bytes := 32, zero := some (Value.agg #[Value.int IntKind.i64 0, Value.slice none 0 0]), elem := 0, fields := [(0, 1, false), (1, 1, false)], eqs := none } := by kernel_rfl
theorem is41 : isStructT E.P 41 = true := by kernel_rfl
theorem ti44 : tiOf E.P 44 = some { tag := Tag.slice, agg := false, size := 1, bytes := 24, zero := some (Value.slice none 0 0), elem := 115, fields := [], eqs := none } := by kernel_rfl
theorem sl44 : isSliceT E.P 44 = true := by kernel_rfl
theorem ti46 : tiOf E.P 46 = some { tag := Tag.struct, agg := true, size := 2, bytes := 32, zero := some (Value.agg #[Value.int IntKind.i64 0, Value.slice none 0 0]), elem := 0, fields := [(0, 1, false), (1, 1, false)], eqs := none } := by kernel_rfl
theorem is46 : isStructT E.P 46 = true := by kernel_rfl
theorem ti55 : tiOf E.P 55 = some { tag := Tag.slice, agg := false, size := 1, bytes := 24, zero := some (Value.slice none 0 0), elem := 132, fields := [], eqs := none } := by kernel_rfl
theorem sl55 : isSliceT E.P 55 = true := by kernel_rfl
theorem ti56 : tiOf E.P 56 = some { tag := Tag.slice, agg := false, size := 1, bytes := 24, zero := some (Value.slice none 0 0), elem := 134, fields := [], eqs := none } := by kernel_rfl
theorem sl56 : isSliceT E.P 56 = true := by kernel_rfl
theorem ti58 : tiOf E.P 58 = some { tag := Tag.struct, agg := true, size := 6, bytes := 48, zero := some (Value.agg #[Value.int IntKind.i64 0, Value.int IntKind.i64 0, Value.int IntKind.i64 0, Value.int IntKind.i64 0, Value.int IntKind.i64 0, Value.int IntKind.i64 0]), elem := 0, fields := [(0, 1, false), (1, 1, false), (2, 1, false), (3, 1, false), (4, 1, false), (5, 1, false)], eqs := some [0, 0, 0, 0, 0, 0] } := by kernel_rfl
theorem is58 : isStructT E.P 58 = true := by kernel_rfl
theorem ti61 : tiOf E.P 61 = some { tag := Tag.slice, agg := false, size := 1, bytes := 24, zero := some (Value.slice none 0 0), elem := 3, fields := [], eqs := none } := by kernel_rfl
theorem sl61 : isSliceT E.P 61 = true := by kernel_rfl
theorem ti63 : tiOf E.P 63 = some { tag := Tag.slice, agg := false, size := 1, bytes := 24, zero := some (Value.slice none 0 0), elem := 130, fields := [], eqs := none } := by kernel_rfl
theorem sl63 : isSliceT E.P 63 = true := by kernel_rfl
theorem ti65 : tiOf E.P 65 = some { tag := Tag.slice, agg := false, size := 1, bytes := 24, zero := some (Value.slice none 0 0), elem := 128, fields := [], eqs := none } := by kernel_rfl
theorem sl65 : isSliceT E.P 65 = true := by kernel_rfl
theorem ti67 : tiOf E.P 67 = some { tag := Tag.struct, agg := true, size := 6, bytes := 48, zero := some (Value.agg #[Value.int IntKind.i64 0, Value.int IntKind.i64 0, Value.int IntKind.i64 0, Value.int IntKind.i64 0, Value.int IntKind.i64 0, Value.int IntKind.i64 0]), elem := 0, fields := [(0, 1, false), (1, 1, false), (2, 1, false), (3, 1, false), (4, 1, false), (5, 1, false)], eqs := some [0, 0, 0, 0, 0, 0] } := by kernel_rfl
theorem is67 : isStructT E.P 67 = true := by kernel_rfl
theorem ti77 : tiOf E.P 77 = some { tag := Tag.slice, agg := false, size := 1, bytes := 24, zero := some (Value.slice none 0 0), elem := 5, fields := [], eqs := none } := by kernel_rfl
theorem sl77 : isSliceT E.P 77 = true := by kernel_rfl
theorem ti79 : tiOf E.P 79 = some { tag := Tag.slice, agg := false, size := 1, bytes := 24, zero := some (Value.slice none 0 0), elem := 90, fields := [], eqs := none } := by kernel_rfl
theorem sl79 : isSliceT E.P 79 = true := by kernel_rfl
theorem ti90 : tiOf E.P 90 = some { tag := Tag.struct, agg := true, size := 5, bytes := 72, zero := some (Value.agg #[Value.int IntKind.i64 0, Value.int IntKind.i64 0, Value.slice none 0 0, Value.int IntKind.i64 0, Value.slice none 0 0]), elem := 0, fields := [(0, 1, false), (1, 1, false), (2, 1, false), (3, 2, true)], eqs := none } := by kernel_rfl
theorem is90 : isStructT E.P 90 = true := by kernel_rfl
theorem ti91 : tiOf E.P 91 = some { tag := Tag.slice, agg := false, size := 1, bytes := 24, zero := some (Value.slice none 0 0), elem := 151, fields := [], eqs := none } := by kernel_rfl
theorem sl91 : isSliceT E.P 91 = true := by kernel_rfl
theorem ti100 : tiOf E.P 100 = some { tag := Tag.slice, agg := false, size := 1, bytes := 24, zero := some (Value.slice none 0 0), elem := 194, fields := [], eqs := none } := by kernel_rfl
theorem sl100 : isSliceT E.P 100 = true := by kernel_rfl
theorem ti102 : tiOf E.P 102 = some { tag := Tag.struct, agg := true, size := 3, bytes := 40, zero := some (Value.agg #[Value.int IntKind.i64 0, Value.slice none 0 0, Value.int IntKind.i64 0]), elem := 0, fields := [(0, 1, false), (1, 1, false), (2, 1, false)], eqs := none } := by kernel_rfl
theorem is102 : isStructT E.P 102 = true := by kernel_rfl
theorem ti104 : tiOf E.P 104 = some { tag := Tag.struct, agg := true, size := 5, bytes := 72, zero := some (Value.agg #[Value.slice none 0 0, Value.int IntKind.i64 0, Value.slice none 0 0, Value.int IntKind.i64 0, Value.int IntKind.i64 0]), elem := 0, fields := [(0, 1, false), (1, 3, true), (4, 1, false)], eqs := none } := by kernel_rfl
theorem is104 : isStructT E.P 104 = true := by kernel_rfl
theorem ti115 : tiOf E.P 115 = some { tag := Tag.struct, agg := true, size := 7, bytes := 72, zero := some (Value.agg #[Value.int IntKind.i64 0, Value.int IntKind.i64 0, Value.int IntKind.i64 0, Value.int IntKind.i64 0, Value.int IntKind.i64 0, Value.int IntKind.i64 0, Value.slice none 0 0]), elem := 0, fields := [(0, 1, false), (1, 1, false), (2, 1, false), (3, 4, true)], eqs := none } := by kernel_rfl
theorem is115 : isStructT E.P 115 = true := by kernel_rfl
theorem ti128 : tiOf E.P 128 = some { tag := Tag.struct, agg := true, size := 6, bytes := 48, zero := some (Value.agg #[Value.int IntKind.i64 0, Value.int IntKind.i64 0, Value.int IntKind.i64 0, Value.int IntKind.i64 0, Value.int IntKind.i64 0, Value.int IntKind.i64 0]), elem := 0, fields := [(0, 1, false), (1, 1, false), (2, 1, false), (3, 1, false), (4, 1, false), (5, 1, false)], eqs := some [0, 0, 0, 0, 0, 0] } := by kernel_rfl
theorem is128 : isStructT E.P 128 = true := by kernel_rfl
theorem ti130 : tiOf E.P 130 = some { tag := Tag.struct, agg := true, size := 2, bytes := 16, zero := some (Value.agg #[Value.int IntKind.i64 0, Value.int IntKind.i64 0]), elem := 0, fields := [(0, 1, false), (1, 1, false)], eqs := some [0, 0] } := by kernel_rfl
theorem is130 : isStructT E.P 130 = true := by kernel_rfl
theorem ti132 : tiOf E.P 132 = some { tag := Tag.struct, agg := true, size := 2, bytes := 16, zero := some (Value.agg #[Value.int IntKind.i64 0, Value.int IntKind.i64 0]), elem := 0, fields := [(0, 1, false), (1, 1, false)], eqs := some [0, 0] } := by kernel_rfl
theorem is132 : isStructT E.P 132 = true := by kernel_rfl
theorem ti134 : tiOf E.P 134 = some { tag := Tag.struct, agg := true, size := 6, bytes := 48, zero := some (Value.agg #[Value.int IntKind.i64 0, Value.int IntKind.i64 0, Value.int IntKind.i64 0, Value.int IntKind.i64 0, Value.int IntKind.i64 0, Value.int IntKind.i64 0]), elem := 0, fields := [(0, 1, false), (1, 1, false), (2, 1, false), (3, 1, false), (4, 1, false), (5, 1, false)], eqs := some [0, 0, 0, 0, 0, 0] } := by kernel_rfl
theorem is134 : isStructT E.P 134 = true := by kernel_rfl
theorem ti151 : tiOf E.P 151 = some { tag := Tag.struct, agg := true, size := 2, bytes := 16, zero := some (Value.agg #[Value.int IntKind.i64 0, Value.int IntKind.i64 0]), elem := 0, fields := [(0, 1, false), (1, 1, false)], eqs := some [0, 0] } := by kernel_rfl
theorem is151 : isStructT E.P 151 = true := by kernel_rfl
theorem ti164 : tiOf E.P 164 = some { tag := Tag.struct, agg := true, size := 7, bytes := 72, zero := some (Value.agg #[Value.int IntKind.i64 0, Value.int IntKind.i64 0, Value.int IntKind.i64 0, Value.int IntKind.i64 0, Value.int IntKind.i64 0, Value.int IntKind.i64 0, Value.slice none 0 0]), elem := 0, fields := [(0, 1, false), (1, 1, false), (2, 1, false), (3, 4, true)], eqs := none } := by kernel_rfl
theorem is164 : isStructT E.P 164 = true := by kernel_rfl
theorem ti169 : tiOf E.P 169 = some { tag := Tag.struct, agg := true, size := 3, bytes := 40, zero := some (Value.agg #[Value.slice none 0 0, Value.int IntKind.i64 0, Value.int IntKind.i64 0]), elem := 0, fields := [(0, 1, false), (1, 1, false), (2, 1, false)], eqs := none } := by kernel_rfl
theorem is169 : isStructT E.P 169 = true := by kernel_rfl
theorem ti189 : tiOf E.P 189 = some { tag := Tag.array 6, agg := true, size := 6, bytes := 6, zero := some (Value.agg #[Value.bool false, Value.bool false, Value.bool false, Value.bool false, Value.bool false, Value.bool false]), elem := 4, fields := [], eqs := none } := by kernel_rfl
theorem ti194 : tiOf E.P 194 = some { tag := Tag.struct, agg := true, size := 3, bytes := 24, zero := some (Value.agg #[Value.int IntKind.i64 0, Value.int IntKind.i64 0, Value.int IntKind.i64 0]), elem := 0, fields := [(0, 1, false), (1, 1, false), (2, 1, false)], eqs := some [0, 0, 0] } := by kernel_rfl
theorem is194 : isStructT E.P 194 = true := by kernel_rfl
theorem plan_3_17 : E.plan 3 17 = [(false, 0), (false, 1), (true, 2), (false, 3), (false, 4)] := rfl
theorem plan_4_10 : E.plan 4 10 = [(false, 0), (false, 1), (true, 2), (false, 3), (false, 4)] := rfl
theorem plan_5_8 : E.plan 5 8 = [(false, 0), (false, 2), (true, 1), (false, 3), (false, 4), (false, 5)] := rfl
theorem plan_5_14 : E.plan 5 14 = [(false, 0), (false, 1), (true, 2), (false, 3), (false, 4)] := rfl
theorem plan_5_16 : E.plan 5 16 = [(false, 0), (false, 1), (true, 2), (false, 3), (false, 4)] := rfl
theorem plan_6_17 : E.plan 6 17 = [(false, 0), (false, 1), (true, 2), (false, 3), (false, 4)] := rfl
theorem plan_7_11 : E.plan 7 11 = [(false, 0), (false, 2), (false, 4), (false, 6), (true, 1), (true, 3), (true, 5), (false, 7), (false, 8), (false, 9)] := rfl
theorem plan_7_15 : E.plan 7 15 = [(false, 0), (false, 1), (false, 2), (false, 3), (true, 4), (false, 5), (false, 6)] := rfl
theorem plan_7_22 : E.plan 7 22 = [(false, 0), (false, 1), (true, 2), (false, 3), (false, 4)] := rfl
theorem plan_7_38 : E.plan 7 38 = [(false, 0), (false, 2), (false, 4), (false, 6), (true, 1), (true, 3), (true, 5), (false, 7), (false, 8), (false, 9)] := rfl
theorem plan_9_10 : E.plan 9 10 = [(false, 0), (false, 1), (true, 2), (false, 3), (false, 4)] := rfl
theorem plan_10_10 : E.plan 10 10 = [(false, 0), (false, 1), (true, 2), (false, 3), (false, 4)] := rfl
theorem plan_11_8 : E.plan 11 8 = [(false, 0), (false, 2), (false, 4), (false, 5), (true, 1), (true, 3), (false, 6), (false, 7)] := rfl
theorem plan_11_14 : E.plan 11 14 = [(false, 0), (false, 1), (true, 2), (false, 3), (false, 4)] := rfl
theorem plan_11_16 : E.plan 11 16 = [(false, 0), (false, 1), (true, 2), (false, 3), (false, 4)] := rfl
theorem plan_12_10 : E.plan 12 10 = [(false, 0), (false, 1), (true, 2), (false, 3), (false, 4)] := rfl
theorem plan_21_6 : E.plan 21 6 = [(false, 0), (false, 1), (false, 2), (false, 3), (false, 4), (false, 5), (false, 6), (false, 7), (false, 8), (false, 9)] := rfl
theorem plan_22_6 : E.plan 22 6 = [(false, 0), (false, 1), (false, 2), (false, 3), (false, 4), (false, 5), (false, 6), (false, 7), (false, 8)] := rfl
theorem plan_32_3 : E.plan 32 3 = [(false, 0), (false, 1), (true, 2), (false, 3), (false, 4)] := rfl
theorem plan_42_6 : E.plan 42 6 = [(false, 0), (false, 1), (false, 2), (false, 3), (false, 4), (false, 5), (false, 6), (false, 7), (false, 8)] := rfl
theorem plan_43_6 : E.plan 43 6 = [(false, 0), (false, 1), (false, 2), (false, 3), (false, 4), (false, 5), (false, 6), (false, 7), (false, 8), (false, 9)] := rfl
theorem plan_44_6 : E.plan 44 6 = [(false, 0), (false, 1), (false, 2), (false, 3), (false, 4), (false, 5), (false, 6), (false, 7), (false, 8), (false, 9)] := rfl
theorem plan_53_4 : E.plan 53 4 = [(false, 0), (false, 1), (false, 2), (false, 3), (false, 4), (false, 5), (false, 6), (false, 7), (false, 8), (false, 9), (false, 10), (false, 11), (false, 12), (false, 13), (false, 14), (false, 15), (false, 16), (false, 17), (false, 18), (false, 19), (false, 20), (false, 21), (false, 22), (false, 23), (false, 24), (false, 25), (false, 26), (false, 27), (false, 28)] := rfl
theorem plan_61_6 : E.plan 61 6 = [(false, 0), (false, 1), (false, 2), (false, 3), (false, 4), (false, 5), (false, 6), (false, 7), (false, 8), (false, 9)] := rfl
theorem plan_66_3 : E.plan 66 3 = [(false, 0), (false, 1), (false, 2), (false, 4), (false, 5), (false, 6), (true, 3), (false, 7), (false, 8), (false, 9)] := rfl
theorem plan_83_5 : E.plan 83 5 = [(false, 0), (false, 1), (false, 2), (false, 3), (false, 4), (false, 5)] := rfl
theorem plan_87_6 : E.plan 87 6 = [(false, 0), (false, 1), (false, 2), (false, 3), (false, 4), (false, 5), (false, 6), (false, 7), (false, 8), (false, 9)] := rfl
theorem plan_107_4 : E.plan 107 4 = [(false, 0), (false, 2), (true, 1), (false, 3), (false, 4), (false, 5), (false, 6)] := rfl
theorem plan_109_9 : E.plan 109 9 = [(false, 0), (false, 1), (false, 2), (true, 3), (true, 4), (false, 5), (false, 6), (false, 7)] := rfl
theorem plan_112_1 : E.plan 112 1 = [(false, 0), (false, 1), (false, 2), (false, 3), (false, 5), (false, 6), (false, 8), (false, 9), (true, 4), (true, 7), (true, 10), (false, 11), (false, 12)] := rfl
theorem plan_121_3 : E.plan 121 3 = [(false, 1), (false, 2), (false, 3), (false, 4), (false, 6), (false, 7), (false, 8), (false, 9), (false, 10), (true, 0), (true, 5), (false, 11), (false, 12), (false, 13)] := rfl
theorem plan_122_8 : E.plan 122 8 = [(false, 0), (false, 1), (false, 2), (false, 3), (false, 4), (false, 6), (false, 7), (false, 8), (false, 9), (false, 10), (true, 5), (false, 11), (false, 12)] := rfl
theorem plan_126_8 : E.plan 126 8 = [(false, 0), (false, 1), (false, 2), (false, 3), (false, 4), (false, 5), (false, 7), (false, 8), (false, 9), (false, 10), (false, 11), (false, 12), (true, 6), (false, 13), (false, 14)] := rfl
theorem plan_134_4 : E.plan 134 4 = [(false, 0), (false, 1), (false, 2), (false, 3), (false, 4), (false, 5)] := rfl
theorem plan_139_6 : E.plan 139 6 = [(false, 0), (false, 1), (false, 2), (false, 3), (false, 4), (false, 5), (false, 6), (false, 7), (false, 8), (false, 9), (false, 10), (false, 11)] := rfl
theorem plan_140_5 : E.plan 140 5 = [(false, 0), (false, 1), (false, 2), (false, 3), (false, 4), (false, 5), (false, 6), (true, 7), (true, 8), (false, 9), (false, 10), (false, 11)] := rfl
theorem plan_143_5 : E.plan 143 5 = [(false, 0), (false, 1), (false, 2), (true, 3), (true, 4), (false, 5), (false, 6), (false, 7)] := rfl
theorem plan_149_5 : E.plan 149 5 = [(false, 0), (false, 1), (false, 2), (true, 3), (true, 4), (false, 5), (false, 6), (false, 7)] := rfl
theorem plan_150_4 : E.plan 150 4 = [(false, 0), (false, 1), (false, 2), (false, 3), (false, 4), (false, 5), (false, 6), (false, 7), (false, 8), (false, 9), (false, 10), (false, 11), (false, 12), (false, 13), (false, 14), (false, 15), (false, 16), (false, 17), (false, 18), (false, 19), (false, 20), (false, 21), (false, 22), (false, 23), (false, 24), (false, 25), (false, 26), (false, 27), (false, 28), (false, 29), (false, 30), (false, 31), (false, 32), (false, 33), (false, 34), (false, 35), (false, 36), (false, 37)] := rfl
theorem plan_152_1 : E.plan 152 1 = [(false, 0), (false, 1), (false, 2), (false, 3), (false, 5), (false, 6), (false, 8), (false, 9), (true, 4), (true, 7), (true, 10), (false, 11), (false, 12)] := rfl
theorem plan_155_10 : E.plan 155 10 = [(false, 0), (false, 1), (false, 2), (true, 3), (true, 4), (false, 5), (false, 6), (false, 7)] := rfl
theorem plan_157_1 : E.plan 157 1 = [(false, 0), (false, 1), (false, 2), (false, 3), (true, 4), (false, 5), (false, 6)] := rfl
theorem plan_159_4 : E.plan 159 4 = [(false, 0), (false, 1), (false, 2), (false, 3), (false, 4), (false, 5), (false, 6), (false, 7), (false, 8), (false, 9), (false, 10), (false, 11), (false, 12), (false, 13), (false, 15), (false, 16), (true, 14), (false, 17), (false, 18)] := rfl
theorem plan_166_13 : E.plan 166 13 = [(false, 0), (false, 1), (false, 2), (false, 3), (false, 4), (false, 5), (false, 6), (false, 7), (false, 8)] := rfl
theorem plan_166_15 : E.plan 166 15 = [(false, 0), (false, 1), (false, 2), (false, 3), (false, 4), (false, 5), (true, 6), (true, 7), (false, 8), (false, 9), (false, 10)] := rfl
theorem plan_167_10 : E.plan 167 10 = [(false, 0), (false, 1), (false, 2), (false, 3), (false, 4), (false, 5), (false, 6)] := rfl
theorem plan_167_13 : E.plan 167 13 = [(false, 0), (false, 1), (false, 2), (false, 3), (false, 4), (false, 5), (true, 6), (true, 7), (false, 8), (false, 9), (false, 10)] := rfl
theorem plan_168_6 : E.plan 168 6 = [(false, 0), (false, 1), (false, 2), (false, 3), (false, 4), (false, 5), (false, 6), (false, 7), (false, 8), (false, 9)] := rfl
theorem plan_171_13 : E.plan 171 13 = [(false, 0), (false, 1), (false, 2), (false, 3), (false, 4), (false, 5), (false, 6), (false, 7), (false, 8), (false, 9), (true, 10), (false, 11), (false, 12), (false, 13)] := rfl
theorem plan_172_12 : E.plan 172 12 = [(false, 0), (false, 1), (false, 2), (false, 3), (false, 4), (true, 5), (false, 6), (false, 7), (false, 8), (false, 9), (false, 10), (false, 11), (false, 12), (false, 13), (false, 14), (false, 15), (false, 16), (false, 17), (false, 18), (false, 19)] := rfl
theorem plan_180_2 : E.plan 180 2 = [(false, 0), (false, 1), (false, 2), (false, 3), (false, 4), (false, 5), (false, 6), (false, 7), (false, 8), (false, 9), (false, 10), (false, 11), (false, 12)] := rfl
theorem plan_180_3 : E.plan 180 3 = [(false, 0), (false, 1), (false, 2), (false, 3), (false, 4), (false, 5), (false, 6), (false, 7), (false, 8), (false, 9)] := rfl
theorem plan_183_9 : E.plan 183 9 = [(false, 0), (false, 1), (false, 2), (false, 3), (true, 4), (false, 5), (false, 6)] := rfl
theorem plan_183_11 : E.plan 183 11 = [(false, 0), (false, 1), (false, 2), (false, 3), (true, 4), (false, 5), (false, 6)] := rfl
theorem plan_190_4 : E.plan 190 4 = [(false, 0), (false, 1), (false, 2), (false, 3), (false, 4), (false, 5)] := rfl
theorem plan_197_4 : E.plan 197 4 = [(false, 0), (false, 1), (false, 2), (false, 3), (false, 4), (false, 5), (false, 6), (false, 7), (false, 8), (false, 9), (false, 10), (false, 11), (false, 12), (false, 13), (false, 14), (false, 15), (false, 16), (false, 17), (false, 18), (false, 19), (false, 20), (false, 21), (false, 22), (false, 24), (false, 25), (false, 26), (false, 27), (false, 28), (true, 23), (false, 29), (false, 30)] := rfl
theorem plan_199_1 : E.plan 199 1 = [(false, 0), (false, 2), (true, 1), (false, 3), (false, 4), (false, 5), (false, 6)] := rfl
theorem plan_200_1 : E.plan 200 1 = [(false, 0), (false, 2), (true, 1), (false, 3), (false, 4), (false, 5), (false, 6)] := rfl
theorem keep_14_5 : E.keep 14 5 = [0, 1, 5] := rfl
theorem keep_17_3 : E.keep 17 3 = [0, 3, 4] := rfl
theorem keep_18_3 : E.keep 18 3 = [0, 3, 4] := rfl
theorem keep_21_4 : E.keep 21 4 = [0, 1, 5] := rfl
theorem keep_22_4 : E.keep 22 4 = [0, 1, 5] := rfl
theorem keep_24_3 : E.keep 24 3 = [1, 2, 3, 7, 8] := rfl
theorem keep_26_3 : E.keep 26 3 = [1, 2, 7, 12, 13, 14] := rfl
theorem keep_29_2 : E.keep 29 2 = [0, 1, 5] := rfl
theorem keep_30_2 : E.keep 30 2 = [0, 1, 5] := rfl
theorem keep_31_7 : E.keep 31 7 = [2, 3, 5, 6] := rfl
theorem keep_32_7 : E.keep 32 7 = [2, 3, 5, 25, 26] := rfl
theorem keep_33_3 : E.keep 33 3 = [1, 2, 3, 4, 5, 11, 12] := rfl
theorem keep_34_3 : E.keep 34 3 = [1, 2, 3, 4, 5, 11, 16, 17, 18] := rfl
theorem keep_37_8 : E.keep 37 8 = [1, 7, 9, 10, 11, 12, 13] := rfl
theorem keep_37_4 : E.keep 37 4 = [1, 7, 9, 10, 11] := rfl
theorem keep_38_3 : E.keep 38 3 = [0, 3, 4] := rfl
theorem keep_39_3 : E.keep 39 3 = [0, 3, 4] := rfl
theorem keep_41_3 : E.keep 41 3 = [7, 9, 10, 16, 17, 18] := rfl
theorem keep_42_4 : E.keep 42 4 = [0, 1, 5] := rfl
theorem keep_43_4 : E.keep 43 4 = [0, 1, 5] := rfl
theorem keep_44_4 : E.keep 44 4 = [0, 1, 5] := rfl
theorem keep_45_2 : E.keep 45 2 = [0, 1, 5] := rfl
theorem keep_46_2 : E.keep 46 2 = [0, 1, 5] := rfl
theorem keep_48_2 : E.keep 48 2 = [0, 1, 5] := rfl
theorem keep_49_2 : E.keep 49 2 = [0, 1, 5] := rfl
theorem keep_51_4 : E.keep 51 4 = [0, 6, 7] := rfl
theorem keep_53_2 : E.keep 53 2 = [0, 5, 6, 7] := rfl
theorem keep_55_3 : E.keep 55 3 = [1, 5, 8, 9, 10] := rfl
theorem keep_59_6 : E.keep 59 6 = [1, 3, 4, 5] := rfl
theorem keep_59_3 : E.keep 59 3 = [1, 3, 4] := rfl
theorem keep_60_6 : E.keep 60 6 = [1, 3, 4, 5, 10, 11, 12, 18, 19, 20] := rfl
theorem keep_60_3 : E.keep 60 3 = [1, 3, 10, 11, 12] := rfl
theorem keep_61_4 : E.keep 61 4 = [0, 1, 5] := rfl
theorem keep_62_2 : E.keep 62 2 = [0, 1, 5] := rfl
theorem keep_63_2 : E.keep 63 2 = [0, 1, 5] := rfl
theorem keep_64_8 : E.keep 64 8 = [2, 5, 6, 7] := rfl
theorem keep_64_5 : E.keep 64 5 = [2, 5, 6] := rfl
theorem keep_65_8 : E.keep 65 8 = [2, 5, 6, 7, 23] := rfl
theorem keep_65_5 : E.keep 65 5 = [2, 5, 23] := rfl
theorem keep_66_7 : E.keep 66 7 = [2, 3, 4, 5, 13, 14] := rfl
theorem keep_67_15 : E.keep 67 15 = [2, 3, 4, 5, 13, 61, 62] := rfl
theorem keep_67_7 : E.keep 67 7 = [2, 3, 4, 5, 13, 41, 42, 43] := rfl
theorem keep_68_6 : E.keep 68 6 = [1, 2, 3, 6, 8, 9, 10] := rfl
theorem keep_69_7 : E.keep 69 7 = [1, 2, 3, 6, 8, 9, 28, 29] := rfl
theorem keep_78_2 : E.keep 78 2 = [0, 1, 7, 8] := rfl
theorem keep_81_5 : E.keep 81 5 = [0, 1, 5] := rfl
theorem keep_83_9 : E.keep 83 9 = [0, 3, 6] := rfl
theorem keep_83_3 : E.keep 83 3 = [0, 3, 5] := rfl
theorem keep_84_3 : E.keep 84 3 = [0, 3, 4] := rfl
theorem keep_86_4 : E.keep 86 4 = [1, 28, 29, 30] := rfl
theorem keep_87_4 : E.keep 87 4 = [0, 1, 5] := rfl
theorem keep_88_2 : E.keep 88 2 = [0, 1, 5] := rfl
theorem keep_89_7 : E.keep 89 7 = [1, 5, 7] := rfl
theorem keep_89_3 : E.keep 89 3 = [0, 1, 5, 6] := rfl
theorem keep_90_3 : E.keep 90 3 = [0, 3, 4] := rfl
theorem keep_91_3 : E.keep 91 3 = [0, 1, 5, 6] := rfl
theorem keep_93_3 : E.keep 93 3 = [1, 5, 8, 9] := rfl
theorem keep_94_3 : E.keep 94 3 = [2, 5, 8, 9, 10] := rfl
theorem keep_104_3 : E.keep 104 3 = [0, 3, 4] := rfl
theorem keep_105_4 : E.keep 105 4 = [0, 3, 4, 5] := rfl
theorem keep_108_7 : E.keep 108 7 = [4, 5] := rfl
theorem keep_109_8 : E.keep 109 8 = [0, 2, 3] := rfl
theorem keep_111_3 : E.keep 111 3 = [3, 7, 8, 9] := rfl
theorem keep_114_2 : E.keep 114 2 = [0, 1, 7, 8] := rfl
theorem keep_119_2 : E.keep 119 2 = [1, 3] := rfl
theorem keep_122_5 : E.keep 122 5 = [2, 3, 4, 5, 9, 10] := rfl
theorem keep_125_3 : E.keep 125 3 = [1, 4, 5, 13, 14, 15] := rfl
theorem keep_126_5 : E.keep 126 5 = [2, 3, 4, 5, 9, 25, 26] := rfl
theorem keep_132_3 : E.keep 132 3 = [1, 2, 5] := rfl
theorem keep_133_4 : E.keep 133 4 = [1, 3] := rfl
theorem keep_134_2 : E.keep 134 2 = [1, 2, 3, 7] := rfl
theorem keep_135_3 : E.keep 135 3 = [3, 7, 8, 9] := rfl
theorem keep_137_4 : E.keep 137 4 = [1, 2, 15, 16, 17] := rfl
theorem keep_139_4 : E.keep 139 4 = [2, 3, 5] := rfl
theorem keep_140_3 : E.keep 140 3 = [1, 2, 3, 4] := rfl
theorem keep_143_3 : E.keep 143 3 = [2, 3, 14, 15, 16] := rfl
theorem keep_148_3 : E.keep 148 3 = [0, 3, 4] := rfl
theorem keep_149_3 : E.keep 149 3 = [0, 2, 3, 4] := rfl
theorem keep_150_2 : E.keep 150 2 = [0, 3] := rfl
theorem keep_151_3 : E.keep 151 3 = [0, 3, 4] := rfl
theorem keep_159_2 : E.keep 159 2 = [0, 5, 6, 7] := rfl
theorem keep_161_3 : E.keep 161 3 = [1, 2, 3, 4] := rfl
theorem keep_165_3 : E.keep 165 3 = [3, 7, 8, 9] := rfl
theorem keep_166_11 : E.keep 166 11 = [0, 11, 12] := rfl
theorem keep_168_4 : E.keep 168 4 = [0, 1, 5] := rfl
theorem keep_169_2 : E.keep 169 2 = [0, 1, 5] := rfl
theorem keep_170_2 : E.keep 170 2 = [0, 1, 5] := rfl
theorem keep_186_7 : E.keep 186 7 = [0, 4, 5, 6, 7, 21, 22, 23] := rfl
theorem keep_186_3 : E.keep 186 3 = [0, 4, 5, 6] := rfl
theorem keep_188_2 : E.keep 188 2 = [0, 1, 7, 8] := rfl
theorem keep_190_2 : E.keep 190 2 = [0, 3, 7, 8] := rfl
theorem keep_197_2 : E.keep 197 2 = [0, 3] := rfl
theorem keep_204_2 : E.keep 204 2 = [0, 1, 5] := rfl
theorem keep_205_15 : E.keep 205 15 = [5, 6, 9] := rfl
theorem keep_205_10 : E.keep 205 10 = [0, 5, 6, 7, 8] := rfl
theorem keep_205_7 : E.keep 205 7 = [0, 5, 6, 7] := rfl
theorem TIS : type_of% (And.intro (And.intro (And.intro (And.intro (And.intro (And.intro @ti3 @ti4) (And.intro @ti5 @ti22)) (And.intro (And.intro @sl22 @ti24) (And.intro @is24 @ti25))) (And.intro (And.intro (And.intro @sl25 @ti29) (And.intro @sl29 @ti31)) (And.intro (And.intro @is31 @ti39) (And.intro @sl39 (And.intro @ti41 @is41))))) (And.intro (And.intro (And.intro (And.intro @ti44 @sl44) (And.intro @ti46 @is46)) (And.intro (And.intro @ti55 @sl55) (And.intro @ti56 @sl56))) (And.intro (And.intro (And.intro @ti58 @is58) (And.intro @ti61 @sl61)) (And.intro (And.intro @ti63 @sl63) (And.intro @ti65 (And.intro @sl65 @ti67)))))) (And.intro (And.intro (And.intro (And.intro (And.intro @is67 @ti77) (And.intro @sl77 @ti79)) (And.intro (And.intro @sl79 @ti90) (And.intro @is90 @ti91))) (And.intro (And.intro (And.intro @sl91 @ti100) (And.intro @sl100 @ti102)) (And.intro (And.intro @is102 @ti104) (And.intro @is104 (And.intro @ti115 @is115))))) (And.intro (And.intro (And.intro (And.intro @ti128 @is128) (And.intro @ti130 @is130)) (And.intro (And.intro @ti132 @is132) (And.intro @ti134 @is134))) (And.intro (And.intro (And.intro @ti151 @is151) (And.intro @ti164 @is164)) (And.intro (And.intro @ti169 @is169) (And.intro @ti189 (And.intro @ti194 @is194))))))) := (And.intro (And.intro (And.intro (And.intro (And.intro (And.intro @ti3 @ti4) (And.intro @ti5 @ti22)) (And.intro (And.intro @sl22 @ti24) (And.intro @is24 @ti25))) (And.intro (And.intro (And.intro @sl25 @ti29) (And.intro @sl29 @ti31)) (And.intro (And.intro @is31 @ti39) (And.intro @sl39 (And.intro @ti41 @is41))))) (And.intro (And.intro (And.intro (And.intro @ti44 @sl44) (And.intro @ti46 @is46)) (And.intro (And.intro @ti55 @sl55) (And.intro @ti56 @sl56))) (And.intro (And.intro (And.intro @ti58 @is58) (And.intro @ti61 @sl61)) (And.intro (And.intro @ti63 @sl63) (And.intro @ti65 (And.intro @sl65 @ti67)))))) (And.intro (And.intro (And.intro (And.intro (And.intro @is67 @ti77) (And.intro @sl77 @ti79)) (And.intro (And.intro @sl79 @ti90) (And.intro @is90 @ti91))) (And.intro (And.intro (And.intro @sl91 @ti100) (And.intro @sl100 @ti102)) (And.intro (And.intro @is102 @ti104) (And.intro @is104 (And.intro @ti115 @is115))))) (And.intro (And.intro (And.intro (And.intro @ti128 @is128) (And.intro @ti130 @is130)) (And.intro (And.intro @ti132 @is132) (And.intro @ti134 @is134))) (And.intro (And.intro (And.intro @ti151 @is151) (And.intro @ti164 @is164)) (And.intro (And.intro @ti169 @is169) (And.intro @ti189 (And.intro @ti194 @is194)))))))
end Go.Proofs.Ytecffiaopdancaa.Flat
