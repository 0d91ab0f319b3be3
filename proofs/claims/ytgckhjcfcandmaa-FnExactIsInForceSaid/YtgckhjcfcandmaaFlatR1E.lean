/-
The program's functions, and how they are reckoned with: tables.
-/
import Derived.Test.YtgckhjcfcandmaaFlatDB
import Derived.Test.YtgckhjcfcandmaaProg
import Derived.KernelRfl
set_option linter.unusedVariables false
set_option linter.unusedSimpArgs false
namespace Go.Proofs.Ytgckhjcfcandmaa.Flat
def keepT : Nat → Nat → List Nat
  | 22, 3 => [0, 1, 5, 6]
  | 23, 3 => [0, 3, 4]
  | 24, 3 => [1, 5, 9, 10, 11]
  | 25, 4 => [0, 1, 5]
  | 26, 2 => [0, 1, 5]
  | 27, 2 => [0, 1, 5]
  | _, _ => []
def planT : Nat → Nat → List (Bool × Nat)
  | 4, 1 => [(false, 0), (false, 2), (true, 1), (false, 3), (false, 4), (false, 5)]
  | 4, 2 => [(false, 0), (false, 2), (true, 1), (false, 3), (false, 4), (false, 5)]
  | 12, 1 => [(false, 0), (false, 2), (true, 1), (false, 3), (false, 4), (false, 5)]
  | 14, 1 => [(false, 0), (false, 1), (false, 2), (false, 4), (true, 3), (false, 5), (false, 6)]
  | 25, 6 => [(false, 0), (false, 1), (false, 2), (false, 3), (false, 4), (false, 5), (false, 6), (false, 7), (false, 8)]
  | _, _ => []
def okT : List Nat := [3, 4, 5, 6, 7, 8, 9, 10, 11, 12, 13, 14, 15, 16, 17, 18, 19, 20, 21, 22, 23, 24, 25, 26, 27, 28, 29, 30, 31, 32, 33, 34, 35, 36, 37, 38]
noncomputable def E : Env := { P := Go.Proofs.Try.prog, md := fun _ => [], keep := keepT, kill := fun _ => false, plan := planT, ok := fun f => okT.contains f }
theorem hkill (n : Nat) : E.kill n = false := rfl
theorem hmd (n : Nat) : (E.md n).all (· == .ro) = true := rfl
theorem md_none (n : Nat) : E.md n = [] := rfl
theorem mixed : E.P.follows .mixedOrders = true := by kernel_rfl
/-- One function's check. -/
def good1 (P : Program) (plan : Nat → Nat → List (Bool × Nat)) (f : Nat) : Bool :=
  match P.funcs[f]? with
  | some fn => (match fn.body with | some c => codeOK (plan f) c | none => true) && !(fn.name == "runtime.NumGoroutine")
  | none => true
theorem good1_ok {E : Env} {l : List Nat} (ho : ∀ f, E.ok f = true → f ∈ l) (h : l.all (good1 E.P E.plan) = true) : Sound E := by
  intro f hf fn c hfn hc
  have h1 := List.all_eq_true.1 h f (ho f hf)
  simp only [good1, hfn, hc, Bool.and_eq_true, Bool.not_eq_true', beq_eq_false_iff_ne, ne_eq] at h1
  exact h1
theorem sound : Sound E := good1_ok (l := okT) (fun f hf => by simpa [E] using hf) (by kernel_rfl)
abbrev noExt : Nat → Option (List AV → List (List AV) → Option (AV × List (List AV))) := fun _ => none
theorem tagBool : tagOf E.P 4 = .bool := by kernel_rfl
theorem one_ne : (1 = 0) = False := by simp
theorem ti25 : tiOf E.P 25 = some { tag := Tag.struct, agg := true, size := 3, bytes := 24, zero := some (Value.agg #[.int .i64 0, .int .i64 0, .int .i64 0]), elem := 0, fields := [(0, 1, false), (1, 1, false), (2, 1, false)], eqs := some [0, 0, 0] } := by kernel_rfl
theorem ti23 : tiOf E.P 23 = some { tag := Tag.struct, agg := true, size := 3, bytes := 24, zero := some (Value.agg #[.int .i64 0, .int .i64 0, .int .i64 0]), elem := 0, fields := [(0, 1, false), (1, 1, false), (2, 1, false)], eqs := some [0, 0, 0] } := by kernel_rfl
theorem ti3 : tiOf E.P 3 = some { tag := Tag.int IntKind.i64, agg := false, size := 1, bytes := 8, zero := some (Value.int IntKind.i64 0), elem := 0, fields := [], eqs := none } := by kernel_rfl
theorem ti29 : tiOf E.P 29 = some { tag := Tag.struct, agg := true, size := 6, bytes := 48, zero := some (Value.agg #[.int .i64 0, .int .i64 0, .int .i64 0, .int .i64 0, .int .i64 0, .int .i64 0]), elem := 0, fields := [(0, 1, false), (1, 1, false), (2, 1, false), (3, 1, false), (4, 1, false), (5, 1, false)], eqs := some [0, 0, 0, 0, 0, 0] } := by kernel_rfl
theorem ti31 : tiOf E.P 31 = some { tag := Tag.struct, agg := true, size := 6, bytes := 48, zero := some (Value.agg #[.int .i64 0, .int .i64 0, .int .i64 0, .int .i64 0, .int .i64 0, .int .i64 0]), elem := 0, fields := [(0, 1, false), (1, 1, false), (2, 1, false), (3, 1, false), (4, 1, false), (5, 1, false)], eqs := some [0, 0, 0, 0, 0, 0] } := by kernel_rfl
theorem is29 : isStructT E.P 29 = true := by kernel_rfl
theorem is31 : isStructT E.P 31 = true := by kernel_rfl
theorem is25 : isStructT E.P 25 = true := by kernel_rfl
theorem is23 : isStructT E.P 23 = true := by kernel_rfl
theorem plan_4_1 : E.plan 4 1 = [(false, 0), (false, 2), (true, 1), (false, 3), (false, 4), (false, 5)] := rfl
theorem plan_4_2 : E.plan 4 2 = [(false, 0), (false, 2), (true, 1), (false, 3), (false, 4), (false, 5)] := rfl
theorem plan_12_1 : E.plan 12 1 = [(false, 0), (false, 2), (true, 1), (false, 3), (false, 4), (false, 5)] := rfl
theorem plan_14_1 : E.plan 14 1 = [(false, 0), (false, 1), (false, 2), (false, 4), (true, 3), (false, 5), (false, 6)] := rfl
end Go.Proofs.Ytgckhjcfcandmaa.Flat
