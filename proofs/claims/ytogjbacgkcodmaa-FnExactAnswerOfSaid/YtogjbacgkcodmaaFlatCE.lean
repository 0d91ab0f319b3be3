/-
The program's functions, and how they are reckoned with: tables.
-/
import Derived.Test.YtogjbacgkcodmaaFlatM5
import Derived.Test.YtogjbacgkcodmaaProg
import Derived.KernelRfl
set_option linter.unusedVariables false
set_option linter.unusedSimpArgs false
namespace Go.Proofs.Ytogjbacgkcodmaa.Flat
def keepT : Nat → Nat → List Nat
  | 13, 15 => [8, 9, 11, 12]
  | 15, 4 => [2, 3, 5]
  | 26, 8 => [1, 3, 4, 5]
  | 26, 2 => [1, 3]
  | 27, 2 => [1, 6, 7, 8]
  | 34, 3 => [0, 1, 5, 6]
  | 35, 3 => [0, 3, 4]
  | 36, 3 => [0, 3, 4]
  | 37, 3 => [1, 5, 9, 10, 11]
  | 38, 4 => [0, 1, 5]
  | 39, 4 => [0, 1, 5]
  | 40, 2 => [0, 1, 5]
  | 41, 2 => [0, 1, 5]
  | 42, 2 => [0, 1, 5]
  | 43, 4 => [1, 2, 5]
  | 44, 3 => [0, 3, 4]
  | 46, 4 => [0, 1, 5]
  | 49, 2 => [0, 1, 5]
  | 52, 5 => [1, 3, 4]
  | 53, 5 => [1, 3, 12, 13]
  | 54, 2 => [0, 1, 5]
  | 55, 6 => [1, 3, 4, 5]
  | 55, 3 => [1, 3, 4]
  | 56, 3 => [3, 8, 9, 10]
  | 57, 2 => [0, 1, 5]
  | 60, 4 => [0, 1, 5]
  | 61, 5 => [2, 4, 5, 6, 7]
  | 62, 2 => [0, 1, 5]
  | 64, 3 => [0, 3, 4]
  | 65, 4 => [0, 1, 12, 13]
  | 66, 4 => [0, 1, 5]
  | 72, 4 => [2, 3, 31, 32, 33]
  | 74, 5 => [0, 1, 5]
  | 75, 3 => [0, 3, 4]
  | 76, 4 => [0, 1, 5]
  | 77, 2 => [0, 1, 5]
  | 81, 2 => [1, 2, 5]
  | 82, 3 => [0, 3, 4]
  | 83, 11 => [0, 11, 12]
  | 85, 2 => [0, 1, 5]
  | 86, 2 => [0, 1, 5]
  | 87, 3 => [0, 1, 5, 6]
  | 88, 3 => [1, 5, 8, 9]
  | 90, 9 => [0, 3, 4, 5]
  | 90, 4 => [0, 3]
  | 91, 3 => [0, 3, 4]
  | 93, 4 => [0, 1, 5, 6, 7]
  | 100, 2 => [0, 1, 7, 8]
  | 101, 2 => [0, 3, 7, 8]
  | 102, 2 => [0, 1, 2, 3, 8, 9]
  | 106, 4 => [0, 1, 2, 6, 7]
  | 106, 1 => [0, 1, 2, 6]
  | 107, 8 => [0, 6, 7, 10]
  | 107, 4 => [0, 6, 7, 8, 9]
  | 108, 5 => [0, 1, 6, 7, 8, 9]
  | 110, 2 => [0, 6, 7]
  | 111, 20 => [0, 1, 2, 7, 8, 10]
  | 111, 14 => [0, 1, 2, 7, 8, 9]
  | 111, 5 => [0, 1, 2, 7, 8]
  | 111, 3 => [0, 1, 2, 7, 8]
  | 113, 5 => [0, 1, 9, 10]
  | 113, 3 => [0, 1, 9, 10]
  | 114, 15 => [0, 1, 10, 11]
  | 114, 13 => [0, 1, 10, 11]
  | 114, 5 => [0, 1, 10, 11]
  | 114, 3 => [0, 1, 10, 11]
  | 117, 1 => [0, 2, 3, 8]
  | _, _ => []
def planT : Nat → Nat → List (Bool × Nat)
  | 3, 8 => [(false, 0), (false, 2), (true, 1), (false, 3), (false, 4), (false, 5)]
  | 3, 14 => [(false, 0), (false, 1), (true, 2), (false, 3), (false, 4)]
  | 3, 16 => [(false, 0), (false, 1), (true, 2), (false, 3), (false, 4)]
  | 4, 10 => [(false, 0), (false, 1), (true, 2), (false, 3), (false, 4)]
  | 5, 8 => [(false, 0), (false, 2), (true, 1), (false, 3), (false, 4), (false, 5)]
  | 5, 14 => [(false, 0), (false, 1), (true, 2), (false, 3), (false, 4)]
  | 5, 16 => [(false, 0), (false, 1), (true, 2), (false, 3), (false, 4)]
  | 6, 10 => [(false, 0), (false, 1), (true, 2), (false, 3), (false, 4)]
  | 7, 10 => [(false, 0), (false, 1), (true, 2), (false, 3), (false, 4)]
  | 9, 13 => [(false, 0), (false, 1), (true, 2), (false, 3), (false, 4)]
  | 11, 10 => [(false, 0), (false, 1), (true, 2), (false, 3), (false, 4)]
  | 12, 10 => [(false, 0), (false, 1), (true, 2), (false, 3), (false, 4)]
  | 13, 11 => [(false, 0), (false, 1), (false, 2), (false, 3), (false, 5), (true, 4), (false, 6), (false, 7), (false, 8), (false, 9), (false, 10), (false, 11), (false, 12), (false, 14), (false, 15), (true, 13), (false, 16), (false, 17), (false, 18), (false, 19), (false, 20), (false, 21), (false, 22), (false, 23), (false, 24), (false, 25), (false, 26), (false, 27)]
  | 13, 19 => [(false, 0), (false, 1), (false, 2), (false, 3), (false, 4), (false, 5), (false, 6), (false, 8), (false, 9), (true, 7), (false, 10), (false, 11), (false, 12)]
  | 15, 6 => [(false, 0), (false, 1), (false, 2), (false, 3), (false, 4), (false, 5), (false, 6), (false, 7), (false, 8), (false, 9), (false, 10)]
  | 26, 10 => [(false, 0), (false, 1), (false, 2), (false, 3), (false, 4), (false, 5), (false, 6)]
  | 27, 4 => [(false, 0), (false, 1), (false, 2), (false, 3), (false, 4), (false, 5), (false, 6), (false, 7), (false, 8)]
  | 38, 6 => [(false, 0), (false, 1), (false, 2), (false, 3), (false, 4), (false, 5), (false, 6), (false, 7), (false, 8), (false, 9)]
  | 39, 6 => [(false, 0), (false, 1), (false, 2), (false, 3), (false, 4), (false, 5), (false, 6), (false, 7), (false, 8)]
  | 46, 6 => [(false, 0), (false, 1), (false, 2), (false, 3), (false, 4), (false, 5), (false, 6), (false, 7), (false, 8)]
  | 60, 6 => [(false, 0), (false, 1), (false, 2), (false, 3), (false, 4), (false, 5), (false, 6), (false, 7), (false, 8)]
  | 65, 6 => [(false, 0), (false, 1), (false, 2), (false, 3), (false, 4), (false, 5), (false, 6), (false, 7), (false, 8)]
  | 66, 6 => [(false, 0), (false, 1), (false, 2), (false, 3), (false, 4), (false, 5), (false, 6), (false, 7), (false, 8), (false, 9)]
  | 71, 3 => [(false, 0), (false, 1), (false, 2), (false, 3), (false, 4), (false, 5), (false, 6), (false, 7), (false, 8), (false, 9), (false, 10), (false, 11), (false, 12), (false, 13), (false, 14), (false, 15), (false, 16), (false, 17), (false, 18), (false, 19)]
  | 72, 6 => [(false, 0), (false, 1), (false, 2), (false, 3), (false, 4), (false, 5), (false, 6), (false, 7), (false, 8), (false, 9), (false, 10), (false, 11), (false, 12), (false, 13), (false, 14), (false, 15), (false, 16), (false, 17), (false, 18), (false, 19)]
  | 76, 6 => [(false, 0), (false, 1), (false, 2), (false, 3), (false, 4), (false, 5), (false, 6), (false, 7), (false, 8), (false, 9)]
  | 83, 13 => [(false, 0), (false, 1), (false, 2), (false, 3), (false, 4), (false, 5), (false, 6), (false, 7), (false, 8)]
  | 83, 15 => [(false, 0), (false, 1), (false, 2), (false, 3), (false, 4), (false, 5), (true, 6), (true, 7), (false, 8), (false, 9), (false, 10)]
  | 84, 10 => [(false, 0), (false, 1), (false, 2), (false, 3), (false, 4), (false, 5), (false, 6)]
  | 84, 13 => [(false, 0), (false, 1), (false, 2), (false, 3), (false, 4), (false, 5), (true, 6), (true, 7), (false, 8), (false, 9), (false, 10)]
  | 90, 6 => [(false, 0), (false, 1), (false, 2), (false, 3), (false, 4), (false, 5), (false, 6), (false, 7), (false, 8), (false, 9)]
  | 90, 11 => [(false, 0), (false, 1), (false, 2), (false, 3), (false, 4), (false, 5), (false, 6), (false, 7), (false, 8), (false, 9)]
  | 101, 4 => [(false, 0), (false, 1), (false, 2), (false, 3), (false, 4), (false, 5)]
  | 102, 17 => [(false, 0), (false, 1), (false, 2), (false, 3), (false, 4), (false, 5), (false, 6), (false, 7), (false, 8), (false, 9), (false, 10), (false, 11), (false, 12), (false, 13), (false, 14)]
  | 104, 2 => [(false, 0), (false, 1), (false, 2), (false, 3), (false, 4), (false, 5), (false, 6), (false, 7), (false, 8), (false, 9), (false, 10), (false, 11), (false, 12)]
  | 104, 3 => [(false, 0), (false, 1), (false, 2), (false, 3), (false, 4), (false, 5), (false, 6), (false, 7), (false, 8), (false, 9)]
  | 106, 4 => [(false, 0), (false, 1), (false, 2), (false, 3), (false, 4), (false, 5), (false, 6), (false, 7), (false, 8), (false, 9), (false, 10), (false, 11), (false, 12), (false, 13), (false, 14)]
  | 106, 6 => [(false, 0), (false, 1), (false, 2), (false, 3), (false, 4), (false, 5), (false, 6), (false, 7), (false, 8), (false, 9), (false, 10), (false, 11), (false, 12), (false, 13), (false, 14), (true, 15), (false, 16), (false, 17)]
  | 107, 10 => [(false, 0), (false, 1), (false, 2), (false, 3), (false, 4), (false, 5), (false, 6), (false, 7), (false, 8), (false, 9), (false, 10), (false, 11), (false, 12), (false, 13), (false, 14), (false, 15), (false, 16), (true, 17), (false, 18), (false, 19)]
  | 108, 10 => [(false, 0), (false, 1), (false, 2), (false, 3), (false, 4), (false, 5), (false, 6), (false, 7), (false, 8), (false, 9), (false, 10), (false, 11), (false, 12), (false, 13), (false, 14), (false, 15), (false, 16), (true, 17), (false, 18), (false, 19)]
  | 110, 3 => [(false, 0), (false, 1), (false, 2), (false, 3), (false, 4), (false, 5), (false, 6), (false, 7), (false, 8), (false, 9), (false, 10), (false, 11), (false, 12), (true, 13), (false, 14), (false, 15)]
  | 111, 5 => [(false, 0), (false, 1), (false, 2), (false, 3), (false, 4), (false, 5), (false, 6), (false, 7), (false, 8), (false, 9), (false, 10), (false, 11), (false, 12), (false, 13), (false, 14), (false, 15)]
  | 111, 11 => [(false, 0), (false, 1), (false, 2), (false, 3), (false, 4), (false, 5), (false, 6), (false, 7), (false, 8), (false, 9), (false, 10), (false, 11), (false, 12), (false, 13), (false, 14), (true, 15), (false, 16), (false, 17)]
  | 111, 16 => [(false, 0), (false, 1), (false, 2), (false, 3), (false, 4), (false, 5), (false, 6), (false, 7), (false, 8), (false, 9), (false, 10)]
  | 111, 17 => [(false, 0), (false, 1), (false, 2), (false, 3), (false, 4), (false, 5), (false, 6), (false, 7), (false, 8), (false, 9), (false, 10), (false, 11), (false, 12), (false, 13), (false, 14), (true, 15), (false, 16), (false, 17)]
  | 111, 22 => [(false, 0), (false, 1), (false, 2), (false, 3), (false, 4), (false, 5), (false, 6), (false, 7), (false, 8), (false, 9), (false, 10)]
  | 111, 23 => [(false, 0), (false, 1), (false, 2), (false, 3), (false, 4), (false, 5), (false, 6), (false, 7), (false, 8), (false, 9), (false, 10), (false, 11), (false, 12), (false, 13), (false, 14), (true, 15), (false, 16), (false, 17)]
  | 113, 1 => [(false, 0), (false, 1), (false, 2), (false, 3), (false, 4), (false, 5), (false, 6), (false, 7), (false, 8), (false, 9), (false, 10), (false, 11), (false, 12), (true, 13), (false, 14), (false, 15)]
  | 113, 3 => [(false, 0), (false, 1), (false, 2), (false, 3), (false, 4), (false, 5), (false, 6), (false, 7), (false, 8), (false, 9), (false, 10), (false, 11), (false, 12), (false, 13), (false, 14)]
  | 113, 5 => [(false, 0), (false, 1), (false, 2), (false, 3), (false, 4), (false, 5), (false, 6), (false, 7), (false, 8), (false, 9), (false, 10), (false, 11), (false, 12), (false, 13)]
  | 113, 8 => [(false, 0), (false, 1), (false, 2), (false, 3), (false, 4), (false, 5), (false, 6), (false, 7), (false, 8), (false, 9), (false, 10), (false, 11), (false, 12), (true, 13), (false, 14), (false, 15)]
  | 114, 1 => [(false, 0), (false, 1), (false, 2), (false, 3), (false, 4), (false, 5), (false, 6), (false, 7), (false, 8), (false, 9), (false, 10), (false, 11), (false, 12), (true, 13), (false, 14), (false, 15)]
  | 114, 3 => [(false, 0), (false, 1), (false, 2), (false, 3), (false, 4), (false, 5), (false, 6), (false, 7), (false, 8), (false, 9), (false, 10), (false, 11), (false, 12), (false, 13)]
  | 114, 5 => [(false, 0), (false, 1), (false, 2), (false, 3), (false, 4), (false, 5), (false, 6), (false, 7), (false, 8), (false, 9), (false, 10), (false, 11), (false, 12), (false, 13), (false, 14)]
  | 114, 8 => [(false, 0), (false, 1), (false, 2), (false, 3), (false, 4), (false, 5), (false, 6), (false, 7), (false, 8), (false, 9), (false, 10), (false, 11), (false, 12), (true, 13), (false, 14), (false, 15)]
  | 114, 10 => [(false, 0), (false, 1), (false, 2), (false, 3), (false, 4), (false, 5), (false, 6), (false, 7), (false, 8), (false, 9), (false, 10), (false, 11), (false, 12), (true, 13), (false, 14), (false, 15)]
  | 114, 13 => [(false, 0), (false, 1), (false, 2), (false, 3), (false, 4), (false, 5), (false, 6), (false, 7), (false, 8), (false, 9), (false, 10), (false, 11), (false, 12), (false, 13)]
  | 114, 15 => [(false, 0), (false, 1), (false, 2), (false, 3), (false, 4), (false, 5), (false, 6), (false, 7), (false, 8), (false, 9), (false, 10), (false, 11), (false, 12), (false, 13), (false, 14)]
  | 114, 18 => [(false, 0), (false, 1), (false, 2), (false, 3), (false, 4), (false, 5), (false, 6), (false, 7), (false, 8), (false, 9), (false, 10), (false, 11), (false, 12), (true, 13), (false, 14), (false, 15)]
  | 114, 21 => [(false, 0), (false, 1), (false, 2), (false, 3), (false, 4), (false, 5), (false, 6), (false, 7), (false, 8), (false, 9), (false, 10), (false, 11), (false, 12), (true, 13), (false, 14), (false, 15)]
  | 117, 3 => [(false, 0), (false, 1), (false, 2), (false, 3), (false, 4), (false, 5), (false, 6), (false, 7), (false, 8), (false, 9), (false, 10), (false, 11), (false, 12), (false, 13), (false, 14), (false, 15), (false, 16), (false, 17), (false, 18), (false, 19)]
  | 117, 5 => [(false, 0), (false, 1), (false, 2), (false, 3), (false, 4), (false, 5), (false, 6), (false, 7), (false, 8), (false, 9), (false, 10), (false, 11), (false, 12), (false, 13)]
  | 117, 6 => [(false, 0), (false, 1), (false, 2), (false, 3), (false, 4), (false, 5), (false, 6), (false, 7), (false, 8), (false, 9), (false, 10), (false, 11), (false, 12), (false, 13), (false, 14), (false, 15), (false, 16), (false, 17), (false, 18), (false, 19), (false, 20), (true, 21), (false, 22), (false, 23)]
  | 119, 1 => [(false, 0), (false, 1), (false, 2), (false, 3), (false, 4), (false, 5), (false, 6), (false, 7), (false, 8), (false, 9)]
  | 119, 2 => [(false, 0), (false, 1), (false, 2), (false, 3), (false, 4), (false, 5), (false, 6), (false, 7), (false, 8), (false, 9)]
  | 119, 3 => [(false, 0), (false, 1), (false, 2), (false, 3), (false, 4), (false, 5), (false, 6), (false, 7), (false, 8), (false, 9)]
  | 123, 1 => [(false, 0), (false, 1), (false, 2), (false, 3), (false, 4), (false, 5), (false, 6), (false, 7), (false, 8)]
  | _, _ => []
def okT : List Nat := [3, 4, 5, 6, 7, 8, 9, 10, 11, 12, 14, 15, 16, 17, 18, 19, 20, 21, 22, 23, 24, 25, 26, 27, 28, 29, 30, 31, 32, 33, 34, 35, 36, 37, 38, 39, 40, 41, 42, 43, 44, 45, 46, 47, 48, 49, 50, 51, 54, 55, 56, 57, 58, 59, 60, 61, 62, 63, 64, 65, 66, 67, 68, 69, 70, 71, 72, 73, 74, 75, 76, 77, 78, 79, 80, 81, 82, 83, 84, 85, 86, 87, 88, 89, 90, 91, 92, 93, 94, 96, 97, 98, 99, 100, 101, 102, 103, 105, 106, 107, 108, 109, 110, 111, 112, 113, 114, 115, 116, 117, 118, 119, 120, 121, 122, 123]
noncomputable def E : Env := { P := Go.Proofs.Try.prog, md := fun _ => [], keep := keepT, kill := fun _ => false, plan := planT, ok := fun f => okT.contains f }
theorem hkill (n : Nat) : E.kill n = false := rfl
theorem hmd (n : Nat) : (E.md n).all (· == .ro) = true := rfl
theorem md_none (n : Nat) : E.md n = [] := rfl
theorem mixed : E.P.follows .mixedOrders = true := by kernel_rfl
/-- One function's check. -/
def good1 (P : Program) (plan : Nat → Nat → List (Bool × Nat)) (f : Nat) : Bool :=
  match P.funcs[f]? with
  | some fn => (match fn.body with | some c => codeOK (plan f) c | none => true) && !(fn.name == "runtime.NumGoroutine")
  | none => true
theorem good1_ok {E : Env} {l : List Nat} (ho : ∀ f, E.ok f = true → f ∈ l) (h : l.all (good1 E.P E.plan) = true) : Sound E := by
  intro f hf fn c hfn hc
  have h1 := List.all_eq_true.1 h f (ho f hf)
  simp -implicitDefEqProofs only [good1, hfn, hc, Bool.and_eq_true, Bool.not_eq_true', beq_eq_false_iff_ne, ne_eq] at h1
  exact h1
theorem sound : Sound E := good1_ok (l := okT) (fun f hf => by simpa [E] using hf) (by kernel_rfl)
abbrev noExt : Nat → Option (List AV → List (List AV) → Option (AV × List (List AV))) := fun _ => none
abbrev tBool : Nat := 4
theorem tagBool : tagOf E.P 4 = .bool := by kernel_rfl
theorem one_ne : (1 = 0) = False := by simp
theorem ti3 : tiOf E.P 3 = some { tag := Tag.int IntKind.i64, agg := false, size := 1, bytes := 8, zero := some (Value.int IntKind.i64 0), elem := 0, fields := [], eqs := none } := by kernel_rfl
theorem ti4 : tiOf E.P 4 = some { tag := Tag.bool, agg := false, size := 1, bytes := 1, zero := some (Value.bool false), elem := 0, fields := [], eqs := none } := by kernel_rfl
theorem ti5 : tiOf E.P 5 = some { tag := Tag.int IntKind.u8, agg := false, size := 1, bytes := 1, zero := some (Value.int IntKind.u8 0), elem := 0, fields := [], eqs := none } := by kernel_rfl
theorem ti9 : tiOf E.P 9 = some { tag := Tag.string, agg := false, size := 1, bytes := 16, zero := some (Value.string { data := #[] }), elem := 0, fields := [], eqs := none } := by kernel_rfl
theorem st9 : isStringT E.P 9 = true := by kernel_rfl
theorem ti22 : tiOf E.P 22 = some { tag := Tag.slice, agg := false, size := 1, bytes := 24, zero := some (Value.slice none 0 0), elem := 124, fields := [], eqs := none } := by kernel_rfl
theorem sl22 : isSliceT E.P 22 = true := by kernel_rfl
theorem ti24 : tiOf E.P 24 = some { tag := Tag.struct, agg := true, size := 3, bytes := 40, zero := some (Value.agg #[Value.int IntKind.i64 0, Value.slice none 0 0, Value.int IntKind.i64 0]), elem := 0, fields := [(0, 1, false), (1, 1, false), (2, 1, false)], eqs := none } := by kernel_rfl
theorem is24 : isStructT E.P 24 = true := by kernel_rfl
theorem ti27 : tiOf E.P 27 = some { tag := Tag.slice, agg := false, size := 1, bytes := 24, zero := some (Value.slice none 0 0), elem := 92, fields := [], eqs := none } := by kernel_rfl
theorem sl27 : isSliceT E.P 27 = true := by kernel_rfl
theorem ti29 : tiOf E.P 29 = some { tag := Tag.struct, agg := true, size := 3, bytes := 40, zero := some (Value.agg #[Value.int IntKind.i64 0, Value.slice none 0 0, Value.int IntKind.i64 0]), elem := 0, fields := [(0, 1, false), (1, 1, false), (2, 1, false)], eqs := none } := by kernel_rfl
theorem is29 : isStructT E.P 29 = true := by kernel_rfl
theorem ti32 : tiOf E.P 32 = some { tag := Tag.slice, agg := false, size := 1, bytes := 24, zero := some (Value.slice none 0 0), elem := 34, fields := [], eqs := none } := by kernel_rfl
theorem sl32 : isSliceT E.P 32 = true := by kernel_rfl
theorem ti34 : tiOf E.P 34 = some { tag := Tag.struct, agg := true, size := 4, bytes := 48, zero := some (Value.agg #[Value.int IntKind.i64 0, Value.int IntKind.i64 0, Value.int IntKind.i64 0, Value.slice none 0 0]), elem := 0, fields := [(0, 1, false), (1, 1, false), (2, 1, false), (3, 1, false)], eqs := none } := by kernel_rfl
theorem is34 : isStructT E.P 34 = true := by kernel_rfl
theorem ti36 : tiOf E.P 36 = some { tag := Tag.struct, agg := true, size := 7, bytes := 72, zero := some (Value.agg #[Value.int IntKind.i64 0, Value.int IntKind.i64 0, Value.int IntKind.i64 0, Value.int IntKind.i64 0, Value.int IntKind.i64 0, Value.int IntKind.i64 0, Value.slice none 0 0]), elem := 0, fields := [(0, 1, false), (1, 1, false), (2, 1, false), (3, 4, true)], eqs := none } := by kernel_rfl
theorem is36 : isStructT E.P 36 = true := by kernel_rfl
theorem ti39 : tiOf E.P 39 = some { tag := Tag.slice, agg := false, size := 1, bytes := 24, zero := some (Value.slice none 0 0), elem := 41, fields := [], eqs := none } := by kernel_rfl
theorem sl39 : isSliceT E.P 39 = true := by kernel_rfl
theorem ti41 : tiOf E.P 41 = some { tag := Tag.struct, agg := true, size := 4, bytes := 48, zero := some (Value.agg #[Value.int IntKind.i64 0, Value.int IntKind.i64 0, Value.int IntKind.i64 0, Value.slice none 0 0]), elem := 0, fields := [(0, 1, false), (1, 1, false), (2, 1, false), (3, 1, false)], eqs := none } := by kernel_rfl
theorem is41 : isStructT E.P 41 = true := by kernel_rfl
theorem ti43 : tiOf E.P 43 = some { tag := Tag.struct, agg := true, size := 7, bytes := 72, zero := some (Value.agg #[Value.int IntKind.i64 0, Value.int IntKind.i64 0, Value.int IntKind.i64 0, Value.int IntKind.i64 0, Value.int IntKind.i64 0, Value.int IntKind.i64 0, Value.slice none 0 0]), elem := 0, fields := [(0, 1, false), (1, 1, false), (2, 1, false), (3, 4, true)], eqs := none } := by kernel_rfl
theorem is43 : isStructT E.P 43 = true := by kernel_rfl
theorem ti51 : tiOf E.P 51 = some { tag := Tag.struct, agg := true, size := 5, bytes := 72, zero := some (Value.agg #[Value.slice none 0 0, Value.int IntKind.i64 0, Value.slice none 0 0, Value.int IntKind.i64 0, Value.int IntKind.i64 0]), elem := 0, fields := [(0, 1, false), (1, 3, true), (4, 1, false)], eqs := none } := by kernel_rfl
theorem is51 : isStructT E.P 51 = true := by kernel_rfl
theorem ti55 : tiOf E.P 55 = some { tag := Tag.struct, agg := true, size := 5, bytes := 72, zero := some (Value.agg #[Value.slice none 0 0, Value.int IntKind.i64 0, Value.slice none 0 0, Value.int IntKind.i64 0, Value.int IntKind.i64 0]), elem := 0, fields := [(0, 1, false), (1, 3, true), (4, 1, false)], eqs := none } := by kernel_rfl
theorem is55 : isStructT E.P 55 = true := by kernel_rfl
theorem ti59 : tiOf E.P 59 = some { tag := Tag.slice, agg := false, size := 1, bytes := 24, zero := some (Value.slice none 0 0), elem := 107, fields := [], eqs := none } := by kernel_rfl
theorem sl59 : isSliceT E.P 59 = true := by kernel_rfl
theorem ti60 : tiOf E.P 60 = some { tag := Tag.slice, agg := false, size := 1, bytes := 24, zero := some (Value.slice none 0 0), elem := 3, fields := [], eqs := none } := by kernel_rfl
theorem sl60 : isSliceT E.P 60 = true := by kernel_rfl
theorem ti62 : tiOf E.P 62 = some { tag := Tag.slice, agg := false, size := 1, bytes := 24, zero := some (Value.slice none 0 0), elem := 105, fields := [], eqs := none } := by kernel_rfl
theorem sl62 : isSliceT E.P 62 = true := by kernel_rfl
theorem ti71 : tiOf E.P 71 = some { tag := Tag.slice, agg := false, size := 1, bytes := 24, zero := some (Value.slice none 0 0), elem := 4, fields := [], eqs := none } := by kernel_rfl
theorem sl71 : isSliceT E.P 71 = true := by kernel_rfl
theorem ti83 : tiOf E.P 83 = some { tag := Tag.slice, agg := false, size := 1, bytes := 24, zero := some (Value.slice none 0 0), elem := 5, fields := [], eqs := none } := by kernel_rfl
theorem sl83 : isSliceT E.P 83 = true := by kernel_rfl
theorem ti92 : tiOf E.P 92 = some { tag := Tag.struct, agg := true, size := 3, bytes := 24, zero := some (Value.agg #[Value.int IntKind.i64 0, Value.int IntKind.i64 0, Value.int IntKind.i64 0]), elem := 0, fields := [(0, 1, false), (1, 1, false), (2, 1, false)], eqs := some [0, 0, 0] } := by kernel_rfl
theorem is92 : isStructT E.P 92 = true := by kernel_rfl
theorem ti105 : tiOf E.P 105 = some { tag := Tag.struct, agg := true, size := 6, bytes := 48, zero := some (Value.agg #[Value.int IntKind.i64 0, Value.int IntKind.i64 0, Value.int IntKind.i64 0, Value.int IntKind.i64 0, Value.int IntKind.i64 0, Value.int IntKind.i64 0]), elem := 0, fields := [(0, 1, false), (1, 1, false), (2, 1, false), (3, 1, false), (4, 1, false), (5, 1, false)], eqs := some [0, 0, 0, 0, 0, 0] } := by kernel_rfl
theorem is105 : isStructT E.P 105 = true := by kernel_rfl
theorem ti107 : tiOf E.P 107 = some { tag := Tag.struct, agg := true, size := 6, bytes := 48, zero := some (Value.agg #[Value.int IntKind.i64 0, Value.int IntKind.i64 0, Value.int IntKind.i64 0, Value.int IntKind.i64 0, Value.int IntKind.i64 0, Value.int IntKind.i64 0]), elem := 0, fields := [(0, 1, false), (1, 1, false), (2, 1, false), (3, 1, false), (4, 1, false), (5, 1, false)], eqs := some [0, 0, 0, 0, 0, 0] } := by kernel_rfl
theorem is107 : isStructT E.P 107 = true := by kernel_rfl
theorem ti124 : tiOf E.P 124 = some { tag := Tag.struct, agg := true, size := 3, bytes := 24, zero := some (Value.agg #[Value.int IntKind.i64 0, Value.int IntKind.i64 0, Value.int IntKind.i64 0]), elem := 0, fields := [(0, 1, false), (1, 1, false), (2, 1, false)], eqs := some [0, 0, 0] } := by kernel_rfl
theorem is124 : isStructT E.P 124 = true := by kernel_rfl
theorem ti130 : tiOf E.P 130 = some { tag := Tag.int IntKind.u64, agg := false, size := 1, bytes := 8, zero := some (Value.int IntKind.u64 0), elem := 0, fields := [], eqs := none } := by kernel_rfl
theorem ti132 : tiOf E.P 132 = some { tag := Tag.struct, agg := true, size := 3, bytes := 40, zero := some (Value.agg #[Value.slice none 0 0, Value.int IntKind.i64 0, Value.int IntKind.i64 0]), elem := 0, fields := [(0, 1, false), (1, 1, false), (2, 1, false)], eqs := none } := by kernel_rfl
theorem is132 : isStructT E.P 132 = true := by kernel_rfl
theorem ti135 : tiOf E.P 135 = some { tag := Tag.int IntKind.i64, agg := false, size := 1, bytes := 8, zero := some (Value.int IntKind.i64 0), elem := 0, fields := [], eqs := none } := by kernel_rfl
theorem ti144 : tiOf E.P 144 = some { tag := Tag.int IntKind.u32, agg := false, size := 1, bytes := 4, zero := some (Value.int IntKind.u32 0), elem := 0, fields := [], eqs := none } := by kernel_rfl
theorem ti146 : tiOf E.P 146 = some { tag := Tag.int IntKind.u64, agg := false, size := 1, bytes := 8, zero := some (Value.int IntKind.u64 0), elem := 0, fields := [], eqs := none } := by kernel_rfl
theorem ti147 : tiOf E.P 147 = some { tag := Tag.int IntKind.u64, agg := false, size := 1, bytes := 8, zero := some (Value.int IntKind.u64 0), elem := 0, fields := [], eqs := none } := by kernel_rfl
theorem plan_3_8 : E.plan 3 8 = [(false, 0), (false, 2), (true, 1), (false, 3), (false, 4), (false, 5)] := rfl
theorem plan_3_14 : E.plan 3 14 = [(false, 0), (false, 1), (true, 2), (false, 3), (false, 4)] := rfl
theorem plan_3_16 : E.plan 3 16 = [(false, 0), (false, 1), (true, 2), (false, 3), (false, 4)] := rfl
theorem plan_4_10 : E.plan 4 10 = [(false, 0), (false, 1), (true, 2), (false, 3), (false, 4)] := rfl
theorem plan_5_8 : E.plan 5 8 = [(false, 0), (false, 2), (true, 1), (false, 3), (false, 4), (false, 5)] := rfl
theorem plan_5_14 : E.plan 5 14 = [(false, 0), (false, 1), (true, 2), (false, 3), (false, 4)] := rfl
theorem plan_5_16 : E.plan 5 16 = [(false, 0), (false, 1), (true, 2), (false, 3), (false, 4)] := rfl
theorem plan_6_10 : E.plan 6 10 = [(false, 0), (false, 1), (true, 2), (false, 3), (false, 4)] := rfl
theorem plan_7_10 : E.plan 7 10 = [(false, 0), (false, 1), (true, 2), (false, 3), (false, 4)] := rfl
theorem plan_9_13 : E.plan 9 13 = [(false, 0), (false, 1), (true, 2), (false, 3), (false, 4)] := rfl
theorem plan_11_10 : E.plan 11 10 = [(false, 0), (false, 1), (true, 2), (false, 3), (false, 4)] := rfl
theorem plan_12_10 : E.plan 12 10 = [(false, 0), (false, 1), (true, 2), (false, 3), (false, 4)] := rfl
theorem plan_13_11 : E.plan 13 11 = [(false, 0), (false, 1), (false, 2), (false, 3), (false, 5), (true, 4), (false, 6), (false, 7), (false, 8), (false, 9), (false, 10), (false, 11), (false, 12), (false, 14), (false, 15), (true, 13), (false, 16), (false, 17), (false, 18), (false, 19), (false, 20), (false, 21), (false, 22), (false, 23), (false, 24), (false, 25), (false, 26), (false, 27)] := rfl
theorem plan_13_19 : E.plan 13 19 = [(false, 0), (false, 1), (false, 2), (false, 3), (false, 4), (false, 5), (false, 6), (false, 8), (false, 9), (true, 7), (false, 10), (false, 11), (false, 12)] := rfl
theorem plan_15_6 : E.plan 15 6 = [(false, 0), (false, 1), (false, 2), (false, 3), (false, 4), (false, 5), (false, 6), (false, 7), (false, 8), (false, 9), (false, 10)] := rfl
theorem plan_26_10 : E.plan 26 10 = [(false, 0), (false, 1), (false, 2), (false, 3), (false, 4), (false, 5), (false, 6)] := rfl
theorem plan_27_4 : E.plan 27 4 = [(false, 0), (false, 1), (false, 2), (false, 3), (false, 4), (false, 5), (false, 6), (false, 7), (false, 8)] := rfl
theorem plan_38_6 : E.plan 38 6 = [(false, 0), (false, 1), (false, 2), (false, 3), (false, 4), (false, 5), (false, 6), (false, 7), (false, 8), (false, 9)] := rfl
theorem plan_39_6 : E.plan 39 6 = [(false, 0), (false, 1), (false, 2), (false, 3), (false, 4), (false, 5), (false, 6), (false, 7), (false, 8)] := rfl
theorem plan_46_6 : E.plan 46 6 = [(false, 0), (false, 1), (false, 2), (false, 3), (false, 4), (false, 5), (false, 6), (false, 7), (false, 8)] := rfl
theorem plan_60_6 : E.plan 60 6 = [(false, 0), (false, 1), (false, 2), (false, 3), (false, 4), (false, 5), (false, 6), (false, 7), (false, 8)] := rfl
theorem plan_65_6 : E.plan 65 6 = [(false, 0), (false, 1), (false, 2), (false, 3), (false, 4), (false, 5), (false, 6), (false, 7), (false, 8)] := rfl
theorem plan_66_6 : E.plan 66 6 = [(false, 0), (false, 1), (false, 2), (false, 3), (false, 4), (false, 5), (false, 6), (false, 7), (false, 8), (false, 9)] := rfl
theorem plan_71_3 : E.plan 71 3 = [(false, 0), (false, 1), (false, 2), (false, 3), (false, 4), (false, 5), (false, 6), (false, 7), (false, 8), (false, 9), (false, 10), (false, 11), (false, 12), (false, 13), (false, 14), (false, 15), (false, 16), (false, 17), (false, 18), (false, 19)] := rfl
theorem plan_72_6 : E.plan 72 6 = [(false, 0), (false, 1), (false, 2), (false, 3), (false, 4), (false, 5), (false, 6), (false, 7), (false, 8), (false, 9), (false, 10), (false, 11), (false, 12), (false, 13), (false, 14), (false, 15), (false, 16), (false, 17), (false, 18), (false, 19)] := rfl
theorem plan_76_6 : E.plan 76 6 = [(false, 0), (false, 1), (false, 2), (false, 3), (false, 4), (false, 5), (false, 6), (false, 7), (false, 8), (false, 9)] := rfl
theorem plan_83_13 : E.plan 83 13 = [(false, 0), (false, 1), (false, 2), (false, 3), (false, 4), (false, 5), (false, 6), (false, 7), (false, 8)] := rfl
theorem plan_83_15 : E.plan 83 15 = [(false, 0), (false, 1), (false, 2), (false, 3), (false, 4), (false, 5), (true, 6), (true, 7), (false, 8), (false, 9), (false, 10)] := rfl
theorem plan_84_10 : E.plan 84 10 = [(false, 0), (false, 1), (false, 2), (false, 3), (false, 4), (false, 5), (false, 6)] := rfl
theorem plan_84_13 : E.plan 84 13 = [(false, 0), (false, 1), (false, 2), (false, 3), (false, 4), (false, 5), (true, 6), (true, 7), (false, 8), (false, 9), (false, 10)] := rfl
theorem plan_90_6 : E.plan 90 6 = [(false, 0), (false, 1), (false, 2), (false, 3), (false, 4), (false, 5), (false, 6), (false, 7), (false, 8), (false, 9)] := rfl
theorem plan_90_11 : E.plan 90 11 = [(false, 0), (false, 1), (false, 2), (false, 3), (false, 4), (false, 5), (false, 6), (false, 7), (false, 8), (false, 9)] := rfl
theorem plan_101_4 : E.plan 101 4 = [(false, 0), (false, 1), (false, 2), (false, 3), (false, 4), (false, 5)] := rfl
theorem plan_102_17 : E.plan 102 17 = [(false, 0), (false, 1), (false, 2), (false, 3), (false, 4), (false, 5), (false, 6), (false, 7), (false, 8), (false, 9), (false, 10), (false, 11), (false, 12), (false, 13), (false, 14)] := rfl
theorem plan_104_2 : E.plan 104 2 = [(false, 0), (false, 1), (false, 2), (false, 3), (false, 4), (false, 5), (false, 6), (false, 7), (false, 8), (false, 9), (false, 10), (false, 11), (false, 12)] := rfl
theorem plan_104_3 : E.plan 104 3 = [(false, 0), (false, 1), (false, 2), (false, 3), (false, 4), (false, 5), (false, 6), (false, 7), (false, 8), (false, 9)] := rfl
theorem plan_106_4 : E.plan 106 4 = [(false, 0), (false, 1), (false, 2), (false, 3), (false, 4), (false, 5), (false, 6), (false, 7), (false, 8), (false, 9), (false, 10), (false, 11), (false, 12), (false, 13), (false, 14)] := rfl
theorem plan_106_6 : E.plan 106 6 = [(false, 0), (false, 1), (false, 2), (false, 3), (false, 4), (false, 5), (false, 6), (false, 7), (false, 8), (false, 9), (false, 10), (false, 11), (false, 12), (false, 13), (false, 14), (true, 15), (false, 16), (false, 17)] := rfl
theorem plan_107_10 : E.plan 107 10 = [(false, 0), (false, 1), (false, 2), (false, 3), (false, 4), (false, 5), (false, 6), (false, 7), (false, 8), (false, 9), (false, 10), (false, 11), (false, 12), (false, 13), (false, 14), (false, 15), (false, 16), (true, 17), (false, 18), (false, 19)] := rfl
theorem plan_108_10 : E.plan 108 10 = [(false, 0), (false, 1), (false, 2), (false, 3), (false, 4), (false, 5), (false, 6), (false, 7), (false, 8), (false, 9), (false, 10), (false, 11), (false, 12), (false, 13), (false, 14), (false, 15), (false, 16), (true, 17), (false, 18), (false, 19)] := rfl
theorem plan_110_3 : E.plan 110 3 = [(false, 0), (false, 1), (false, 2), (false, 3), (false, 4), (false, 5), (false, 6), (false, 7), (false, 8), (false, 9), (false, 10), (false, 11), (false, 12), (true, 13), (false, 14), (false, 15)] := rfl
theorem plan_111_5 : E.plan 111 5 = [(false, 0), (false, 1), (false, 2), (false, 3), (false, 4), (false, 5), (false, 6), (false, 7), (false, 8), (false, 9), (false, 10), (false, 11), (false, 12), (false, 13), (false, 14), (false, 15)] := rfl
theorem plan_111_11 : E.plan 111 11 = [(false, 0), (false, 1), (false, 2), (false, 3), (false, 4), (false, 5), (false, 6), (false, 7), (false, 8), (false, 9), (false, 10), (false, 11), (false, 12), (false, 13), (false, 14), (true, 15), (false, 16), (false, 17)] := rfl
theorem plan_111_16 : E.plan 111 16 = [(false, 0), (false, 1), (false, 2), (false, 3), (false, 4), (false, 5), (false, 6), (false, 7), (false, 8), (false, 9), (false, 10)] := rfl
theorem plan_111_17 : E.plan 111 17 = [(false, 0), (false, 1), (false, 2), (false, 3), (false, 4), (false, 5), (false, 6), (false, 7), (false, 8), (false, 9), (false, 10), (false, 11), (false, 12), (false, 13), (false, 14), (true, 15), (false, 16), (false, 17)] := rfl
theorem plan_111_22 : E.plan 111 22 = [(false, 0), (false, 1), (false, 2), (false, 3), (false, 4), (false, 5), (false, 6), (false, 7), (false, 8), (false, 9), (false, 10)] := rfl
theorem plan_111_23 : E.plan 111 23 = [(false, 0), (false, 1), (false, 2), (false, 3), (false, 4), (false, 5), (false, 6), (false, 7), (false, 8), (false, 9), (false, 10), (false, 11), (false, 12), (false, 13), (false, 14), (true, 15), (false, 16), (false, 17)] := rfl
theorem plan_113_1 : E.plan 113 1 = [(false, 0), (false, 1), (false, 2), (false, 3), (false, 4), (false, 5), (false, 6), (false, 7), (false, 8), (false, 9), (false, 10), (false, 11), (false, 12), (true, 13), (false, 14), (false, 15)] := rfl
theorem plan_113_3 : E.plan 113 3 = [(false, 0), (false, 1), (false, 2), (false, 3), (false, 4), (false, 5), (false, 6), (false, 7), (false, 8), (false, 9), (false, 10), (false, 11), (false, 12), (false, 13), (false, 14)] := rfl
theorem plan_113_5 : E.plan 113 5 = [(false, 0), (false, 1), (false, 2), (false, 3), (false, 4), (false, 5), (false, 6), (false, 7), (false, 8), (false, 9), (false, 10), (false, 11), (false, 12), (false, 13)] := rfl
theorem plan_113_8 : E.plan 113 8 = [(false, 0), (false, 1), (false, 2), (false, 3), (false, 4), (false, 5), (false, 6), (false, 7), (false, 8), (false, 9), (false, 10), (false, 11), (false, 12), (true, 13), (false, 14), (false, 15)] := rfl
theorem plan_114_1 : E.plan 114 1 = [(false, 0), (false, 1), (false, 2), (false, 3), (false, 4), (false, 5), (false, 6), (false, 7), (false, 8), (false, 9), (false, 10), (false, 11), (false, 12), (true, 13), (false, 14), (false, 15)] := rfl
theorem plan_114_3 : E.plan 114 3 = [(false, 0), (false, 1), (false, 2), (false, 3), (false, 4), (false, 5), (false, 6), (false, 7), (false, 8), (false, 9), (false, 10), (false, 11), (false, 12), (false, 13)] := rfl
theorem plan_114_5 : E.plan 114 5 = [(false, 0), (false, 1), (false, 2), (false, 3), (false, 4), (false, 5), (false, 6), (false, 7), (false, 8), (false, 9), (false, 10), (false, 11), (false, 12), (false, 13), (false, 14)] := rfl
theorem plan_114_8 : E.plan 114 8 = [(false, 0), (false, 1), (false, 2), (false, 3), (false, 4), (false, 5), (false, 6), (false, 7), (false, 8), (false, 9), (false, 10), (false, 11), (false, 12), (true, 13), (false, 14), (false, 15)] := rfl
theorem plan_114_10 : E.plan 114 10 = [(false, 0), (false, 1), (false, 2), (false, 3), (false, 4), (false, 5), (false, 6), (false, 7), (false, 8), (false, 9), (false, 10), (false, 11), (false, 12), (true, 13), (false, 14), (false, 15)] := rfl
theorem plan_114_13 : E.plan 114 13 = [(false, 0), (false, 1), (false, 2), (false, 3), (false, 4), (false, 5), (false, 6), (false, 7), (false, 8), (false, 9), (false, 10), (false, 11), (false, 12), (false, 13)] := rfl
theorem plan_114_15 : E.plan 114 15 = [(false, 0), (false, 1), (false, 2), (false, 3), (false, 4), (false, 5), (false, 6), (false, 7), (false, 8), (false, 9), (false, 10), (false, 11), (false, 12), (false, 13), (false, 14)] := rfl
theorem plan_114_18 : E.plan 114 18 = [(false, 0), (false, 1), (false, 2), (false, 3), (false, 4), (false, 5), (false, 6), (false, 7), (false, 8), (false, 9), (false, 10), (false, 11), (false, 12), (true, 13), (false, 14), (false, 15)] := rfl
theorem plan_114_21 : E.plan 114 21 = [(false, 0), (false, 1), (false, 2), (false, 3), (false, 4), (false, 5), (false, 6), (false, 7), (false, 8), (false, 9), (false, 10), (false, 11), (false, 12), (true, 13), (false, 14), (false, 15)] := rfl
theorem plan_117_3 : E.plan 117 3 = [(false, 0), (false, 1), (false, 2), (false, 3), (false, 4), (false, 5), (false, 6), (false, 7), (false, 8), (false, 9), (false, 10), (false, 11), (false, 12), (false, 13), (false, 14), (false, 15), (false, 16), (false, 17), (false, 18), (false, 19)] := rfl
theorem plan_117_5 : E.plan 117 5 = [(false, 0), (false, 1), (false, 2), (false, 3), (false, 4), (false, 5), (false, 6), (false, 7), (false, 8), (false, 9), (false, 10), (false, 11), (false, 12), (false, 13)] := rfl
theorem plan_117_6 : E.plan 117 6 = [(false, 0), (false, 1), (false, 2), (false, 3), (false, 4), (false, 5), (false, 6), (false, 7), (false, 8), (false, 9), (false, 10), (false, 11), (false, 12), (false, 13), (false, 14), (false, 15), (false, 16), (false, 17), (false, 18), (false, 19), (false, 20), (true, 21), (false, 22), (false, 23)] := rfl
theorem plan_119_1 : E.plan 119 1 = [(false, 0), (false, 1), (false, 2), (false, 3), (false, 4), (false, 5), (false, 6), (false, 7), (false, 8), (false, 9)] := rfl
theorem plan_119_2 : E.plan 119 2 = [(false, 0), (false, 1), (false, 2), (false, 3), (false, 4), (false, 5), (false, 6), (false, 7), (false, 8), (false, 9)] := rfl
theorem plan_119_3 : E.plan 119 3 = [(false, 0), (false, 1), (false, 2), (false, 3), (false, 4), (false, 5), (false, 6), (false, 7), (false, 8), (false, 9)] := rfl
theorem plan_123_1 : E.plan 123 1 = [(false, 0), (false, 1), (false, 2), (false, 3), (false, 4), (false, 5), (false, 6), (false, 7), (false, 8)] := rfl
theorem keep_13_15 : E.keep 13 15 = [8, 9, 11, 12] := rfl
theorem keep_15_4 : E.keep 15 4 = [2, 3, 5] := rfl
theorem keep_26_8 : E.keep 26 8 = [1, 3, 4, 5] := rfl
theorem keep_26_2 : E.keep 26 2 = [1, 3] := rfl
theorem keep_27_2 : E.keep 27 2 = [1, 6, 7, 8] := rfl
theorem keep_34_3 : E.keep 34 3 = [0, 1, 5, 6] := rfl
theorem keep_35_3 : E.keep 35 3 = [0, 3, 4] := rfl
theorem keep_36_3 : E.keep 36 3 = [0, 3, 4] := rfl
theorem keep_37_3 : E.keep 37 3 = [1, 5, 9, 10, 11] := rfl
theorem keep_38_4 : E.keep 38 4 = [0, 1, 5] := rfl
theorem keep_39_4 : E.keep 39 4 = [0, 1, 5] := rfl
theorem keep_40_2 : E.keep 40 2 = [0, 1, 5] := rfl
theorem keep_41_2 : E.keep 41 2 = [0, 1, 5] := rfl
theorem keep_42_2 : E.keep 42 2 = [0, 1, 5] := rfl
theorem keep_43_4 : E.keep 43 4 = [1, 2, 5] := rfl
theorem keep_44_3 : E.keep 44 3 = [0, 3, 4] := rfl
theorem keep_46_4 : E.keep 46 4 = [0, 1, 5] := rfl
theorem keep_49_2 : E.keep 49 2 = [0, 1, 5] := rfl
theorem keep_52_5 : E.keep 52 5 = [1, 3, 4] := rfl
theorem keep_53_5 : E.keep 53 5 = [1, 3, 12, 13] := rfl
theorem keep_54_2 : E.keep 54 2 = [0, 1, 5] := rfl
theorem keep_55_6 : E.keep 55 6 = [1, 3, 4, 5] := rfl
theorem keep_55_3 : E.keep 55 3 = [1, 3, 4] := rfl
theorem keep_56_3 : E.keep 56 3 = [3, 8, 9, 10] := rfl
theorem keep_57_2 : E.keep 57 2 = [0, 1, 5] := rfl
theorem keep_60_4 : E.keep 60 4 = [0, 1, 5] := rfl
theorem keep_61_5 : E.keep 61 5 = [2, 4, 5, 6, 7] := rfl
theorem keep_62_2 : E.keep 62 2 = [0, 1, 5] := rfl
theorem keep_64_3 : E.keep 64 3 = [0, 3, 4] := rfl
theorem keep_65_4 : E.keep 65 4 = [0, 1, 12, 13] := rfl
theorem keep_66_4 : E.keep 66 4 = [0, 1, 5] := rfl
theorem keep_72_4 : E.keep 72 4 = [2, 3, 31, 32, 33] := rfl
theorem keep_74_5 : E.keep 74 5 = [0, 1, 5] := rfl
theorem keep_75_3 : E.keep 75 3 = [0, 3, 4] := rfl
theorem keep_76_4 : E.keep 76 4 = [0, 1, 5] := rfl
theorem keep_77_2 : E.keep 77 2 = [0, 1, 5] := rfl
theorem keep_81_2 : E.keep 81 2 = [1, 2, 5] := rfl
theorem keep_82_3 : E.keep 82 3 = [0, 3, 4] := rfl
theorem keep_83_11 : E.keep 83 11 = [0, 11, 12] := rfl
theorem keep_85_2 : E.keep 85 2 = [0, 1, 5] := rfl
theorem keep_86_2 : E.keep 86 2 = [0, 1, 5] := rfl
theorem keep_87_3 : E.keep 87 3 = [0, 1, 5, 6] := rfl
theorem keep_88_3 : E.keep 88 3 = [1, 5, 8, 9] := rfl
theorem keep_90_9 : E.keep 90 9 = [0, 3, 4, 5] := rfl
theorem keep_90_4 : E.keep 90 4 = [0, 3] := rfl
theorem keep_91_3 : E.keep 91 3 = [0, 3, 4] := rfl
theorem keep_93_4 : E.keep 93 4 = [0, 1, 5, 6, 7] := rfl
theorem keep_100_2 : E.keep 100 2 = [0, 1, 7, 8] := rfl
theorem keep_101_2 : E.keep 101 2 = [0, 3, 7, 8] := rfl
theorem keep_102_2 : E.keep 102 2 = [0, 1, 2, 3, 8, 9] := rfl
theorem keep_106_4 : E.keep 106 4 = [0, 1, 2, 6, 7] := rfl
theorem keep_106_1 : E.keep 106 1 = [0, 1, 2, 6] := rfl
theorem keep_107_8 : E.keep 107 8 = [0, 6, 7, 10] := rfl
theorem keep_107_4 : E.keep 107 4 = [0, 6, 7, 8, 9] := rfl
theorem keep_108_5 : E.keep 108 5 = [0, 1, 6, 7, 8, 9] := rfl
theorem keep_110_2 : E.keep 110 2 = [0, 6, 7] := rfl
theorem keep_111_20 : E.keep 111 20 = [0, 1, 2, 7, 8, 10] := rfl
theorem keep_111_14 : E.keep 111 14 = [0, 1, 2, 7, 8, 9] := rfl
theorem keep_111_5 : E.keep 111 5 = [0, 1, 2, 7, 8] := rfl
theorem keep_111_3 : E.keep 111 3 = [0, 1, 2, 7, 8] := rfl
theorem keep_113_5 : E.keep 113 5 = [0, 1, 9, 10] := rfl
theorem keep_113_3 : E.keep 113 3 = [0, 1, 9, 10] := rfl
theorem keep_114_15 : E.keep 114 15 = [0, 1, 10, 11] := rfl
theorem keep_114_13 : E.keep 114 13 = [0, 1, 10, 11] := rfl
theorem keep_114_5 : E.keep 114 5 = [0, 1, 10, 11] := rfl
theorem keep_114_3 : E.keep 114 3 = [0, 1, 10, 11] := rfl
theorem keep_117_1 : E.keep 117 1 = [0, 2, 3, 8] := rfl
theorem TIS : type_of% (And.intro (And.intro (And.intro (And.intro (And.intro @ti3 (And.intro @ti4 @ti5)) (And.intro @ti9 (And.intro @st9 @ti22))) (And.intro (And.intro @sl22 (And.intro @ti24 @is24)) (And.intro (And.intro @ti27 @sl27) (And.intro @ti29 @is29)))) (And.intro (And.intro (And.intro @ti32 (And.intro @sl32 @ti34)) (And.intro (And.intro @is34 @ti36) (And.intro @is36 @ti39))) (And.intro (And.intro @sl39 (And.intro @ti41 @is41)) (And.intro (And.intro @ti43 @is43) (And.intro @ti51 @is51))))) (And.intro (And.intro (And.intro (And.intro @ti55 (And.intro @is55 @ti59)) (And.intro @sl59 (And.intro @ti60 @sl60))) (And.intro (And.intro @ti62 (And.intro @sl62 @ti71)) (And.intro (And.intro @sl71 @ti83) (And.intro @sl83 @ti92)))) (And.intro (And.intro (And.intro @is92 (And.intro @ti105 @is105)) (And.intro (And.intro @ti107 @is107) (And.intro @ti124 @is124))) (And.intro (And.intro @ti130 (And.intro @ti132 @is132)) (And.intro (And.intro @ti135 @ti144) (And.intro @ti146 @ti147)))))) := (And.intro (And.intro (And.intro (And.intro (And.intro @ti3 (And.intro @ti4 @ti5)) (And.intro @ti9 (And.intro @st9 @ti22))) (And.intro (And.intro @sl22 (And.intro @ti24 @is24)) (And.intro (And.intro @ti27 @sl27) (And.intro @ti29 @is29)))) (And.intro (And.intro (And.intro @ti32 (And.intro @sl32 @ti34)) (And.intro (And.intro @is34 @ti36) (And.intro @is36 @ti39))) (And.intro (And.intro @sl39 (And.intro @ti41 @is41)) (And.intro (And.intro @ti43 @is43) (And.intro @ti51 @is51))))) (And.intro (And.intro (And.intro (And.intro @ti55 (And.intro @is55 @ti59)) (And.intro @sl59 (And.intro @ti60 @sl60))) (And.intro (And.intro @ti62 (And.intro @sl62 @ti71)) (And.intro (And.intro @sl71 @ti83) (And.intro @sl83 @ti92)))) (And.intro (And.intro (And.intro @is92 (And.intro @ti105 @is105)) (And.intro (And.intro @ti107 @is107) (And.intro @ti124 @is124))) (And.intro (And.intro @ti130 (And.intro @ti132 @is132)) (And.intro (And.intro @ti135 @ti144) (And.intro @ti146 @ti147))))))
end Go.Proofs.Ytogjbacgkcodmaa.Flat
