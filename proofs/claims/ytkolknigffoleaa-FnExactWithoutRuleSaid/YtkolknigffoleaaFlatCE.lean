/-
The program's functions, and how they are reckoned with: tables.
-/
import Derived.Test.YtkolknigffoleaaFlatM5
import Derived.Test.YtkolknigffoleaaProg
import Derived.KernelRfl
set_option linter.unusedVariables false
set_option linter.unusedSimpArgs false
namespace Go.Proofs.Ytkolknigffoleaa.Flat
def keepT : Nat → Nat → List Nat
  | 7, 3 => [1, 4, 5, 13, 14, 15]
  | 11, 5 => [0, 1, 5]
  | 12, 3 => [1, 2, 3, 4]
  | 14, 3 => [0, 3, 4]
  | 15, 3 => [3, 7, 8, 9]
  | 16, 4 => [0, 1, 5]
  | 17, 2 => [0, 1, 5]
  | 18, 2 => [0, 1, 5]
  | 20, 3 => [1, 2, 3, 4]
  | 22, 3 => [2, 3, 14, 15, 16]
  | 24, 2 => [0, 1, 5]
  | 25, 2 => [0, 1, 5]
  | 29, 5 => [0, 1, 5]
  | 30, 3 => [0, 3, 4]
  | 31, 4 => [0, 1, 5]
  | _, _ => []
def planT : Nat → Nat → List (Qt × Nat)
  | 3, 10 => [(.no, 0), (.no, 1), (.quiet, 2), (.no, 3), (.no, 4)]
  | 5, 3 => [(.frz 5, 1), (.no, 2), (.no, 3), (.no, 4), (.no, 6), (.no, 7), (.no, 8), (.no, 9), (.no, 10), (.soft [15, 20] [1, 5, 15, 16, 17, 18, 20, 21, 22, 23, 24], 0), (.soft [20] [1, 5, 20, 21, 22, 23, 24], 5), (.no, 11), (.no, 12), (.no, 13)]
  | 16, 6 => [(.no, 0), (.no, 1), (.no, 2), (.no, 3), (.no, 4), (.no, 5), (.no, 6), (.no, 7), (.no, 8), (.no, 9)]
  | 20, 5 => [(.no, 0), (.no, 1), (.no, 2), (.no, 3), (.no, 4), (.no, 5), (.no, 6), (.quiet, 7), (.soft [19] [3, 19, 20], 8), (.no, 9), (.no, 10), (.no, 11)]
  | 22, 5 => [(.no, 0), (.no, 1), (.no, 2), (.quiet, 3), (.soft [20] [3, 20, 21], 4), (.no, 5), (.no, 6), (.no, 7)]
  | 31, 6 => [(.no, 0), (.no, 1), (.no, 2), (.no, 3), (.no, 4), (.no, 5), (.no, 6), (.no, 7), (.no, 8), (.no, 9)]
  | _, _ => []
def okT : List Nat := [3, 4, 5, 6, 7, 8, 9, 10, 11, 12, 13, 14, 15, 16, 17, 18, 19, 20, 21, 22, 23, 24, 25, 26, 27, 28, 29, 30, 31]
def treeT : List Nat := [6, 7, 12, 14, 15, 20, 21, 22, 27, 30]
def mdT : Nat → List Mode
  | 9 => [.«mut», .ro]
  | 17 => [.«mut», .ro]
  | 24 => [.«mut», .ro]
  | _ => []
noncomputable def E : Env := { P := Go.Proofs.Try.prog, md := mdT, keep := keepT, plan := planT, ok := fun f => okT.contains f, tree := fun f => treeT.contains f }
theorem mixed : E.P.follows .mixedOrders = true := by kernel_rfl
def good1 (P : Program) (plan : Nat → Nat → List (Qt × Nat)) (md : Nat → List Mode) (f : Nat) : Bool :=
  match P.funcs[f]? with
  | some fn => (match fn.body with | some c => codeOK (plan f) c && codePin (mutSlots 0 (md f)) c | none => true) && !(fn.name == "runtime.NumGoroutine")
  | none => true
theorem good1_ok {E : Env} {l : List Nat} (ho : ∀ f, E.ok f = true → f ∈ l) (h : l.all (good1 E.P E.plan E.md) = true) : Sound E := by
  intro f hf fn c hfn hc
  have h1 := List.all_eq_true.1 h f (ho f hf)
  simp -implicitDefEqProofs only [good1, hfn, hc, Bool.and_eq_true, Bool.not_eq_true', beq_eq_false_iff_ne, ne_eq] at h1
  exact ⟨h1.1.1, h1.2, h1.1.2⟩
theorem sound : Sound E := good1_ok (l := okT) (fun f hf => by simpa [E] using hf) (by kernel_rfl)
abbrev noExt : Nat → Option (List AV → List (List AV) → Option (AV × List (List AV))) := fun _ => none
theorem hext : ∀ f g, noExt f = some g → ∀ args ios ret fin, g args ios = some (ret, fin) → Enters E.P f ∧ CallOK E.P (E.md f) f args ios ret fin := fun f g hg => by simp [noExt] at hg
abbrev tBool : Nat := 4
theorem tagBool : tagOf E.P 4 = .bool := by kernel_rfl
theorem one_ne : (1 = 0) = False := by simp
theorem ti3 : tiOf E.P 3 = some { tag := Tag.int IntKind.i64, agg := false, size := 1, bytes := 8, zero := some (Value.int IntKind.i64 0), elem := 0, fields := [], eqs := none } := by kernel_rfl
theorem ti4 : tiOf E.P 4 = some { tag := Tag.bool, agg := false, size := 1, bytes := 1, zero := some (Value.bool false), elem := 0, fields := [], eqs := none } := by kernel_rfl
theorem ti22 : tiOf E.P 22 = some { tag := Tag.slice, agg := false, size := 1, bytes := 24, zero := some (Value.slice none 0 0), elem := 51, fields := [], eqs := none } := by kernel_rfl
theorem sl22 : isSliceT E.P 22 = true := by kernel_rfl
theorem ti24 : tiOf E.P 24 = some { tag := Tag.struct, agg := true, size := 2, bytes := 32, zero := some (Value.agg #[Value.int IntKind.i64 0, Value.slice none 0 0]), elem := 0, fields := [(0, 1, false), (1, 1, false)], eqs := none } := by kernel_rfl
theorem is24 : isStructT E.P 24 = true := by kernel_rfl
theorem ti26 : tiOf E.P 26 = some { tag := Tag.slice, agg := false, size := 1, bytes := 24, zero := some (Value.slice none 0 0), elem := 43, fields := [], eqs := none } := by kernel_rfl
theorem sl26 : isSliceT E.P 26 = true := by kernel_rfl
theorem ti28 : tiOf E.P 28 = some { tag := Tag.struct, agg := true, size := 2, bytes := 32, zero := some (Value.agg #[Value.int IntKind.i64 0, Value.slice none 0 0]), elem := 0, fields := [(0, 1, false), (1, 1, false)], eqs := none } := by kernel_rfl
theorem is28 : isStructT E.P 28 = true := by kernel_rfl
theorem ti39 : tiOf E.P 39 = some { tag := Tag.slice, agg := false, size := 1, bytes := 24, zero := some (Value.slice none 0 0), elem := 41, fields := [], eqs := none } := by kernel_rfl
theorem sl39 : isSliceT E.P 39 = true := by kernel_rfl
theorem ti41 : tiOf E.P 41 = some { tag := Tag.struct, agg := true, size := 4, bytes := 48, zero := some (Value.agg #[Value.int IntKind.i64 0, Value.int IntKind.i64 0, Value.int IntKind.i64 0, Value.slice none 0 0]), elem := 0, fields := [(0, 1, false), (1, 1, false), (2, 1, false), (3, 1, false)], eqs := none } := by kernel_rfl
theorem is41 : isStructT E.P 41 = true := by kernel_rfl
theorem ti43 : tiOf E.P 43 = some { tag := Tag.struct, agg := true, size := 7, bytes := 72, zero := some (Value.agg #[Value.int IntKind.i64 0, Value.int IntKind.i64 0, Value.int IntKind.i64 0, Value.int IntKind.i64 0, Value.int IntKind.i64 0, Value.int IntKind.i64 0, Value.slice none 0 0]), elem := 0, fields := [(0, 1, false), (1, 1, false), (2, 1, false), (3, 4, true)], eqs := none } := by kernel_rfl
theorem is43 : isStructT E.P 43 = true := by kernel_rfl
theorem ti47 : tiOf E.P 47 = some { tag := Tag.slice, agg := false, size := 1, bytes := 24, zero := some (Value.slice none 0 0), elem := 49, fields := [], eqs := none } := by kernel_rfl
theorem sl47 : isSliceT E.P 47 = true := by kernel_rfl
theorem ti49 : tiOf E.P 49 = some { tag := Tag.struct, agg := true, size := 4, bytes := 48, zero := some (Value.agg #[Value.int IntKind.i64 0, Value.int IntKind.i64 0, Value.int IntKind.i64 0, Value.slice none 0 0]), elem := 0, fields := [(0, 1, false), (1, 1, false), (2, 1, false), (3, 1, false)], eqs := none } := by kernel_rfl
theorem is49 : isStructT E.P 49 = true := by kernel_rfl
theorem ti51 : tiOf E.P 51 = some { tag := Tag.struct, agg := true, size := 7, bytes := 72, zero := some (Value.agg #[Value.int IntKind.i64 0, Value.int IntKind.i64 0, Value.int IntKind.i64 0, Value.int IntKind.i64 0, Value.int IntKind.i64 0, Value.int IntKind.i64 0, Value.slice none 0 0]), elem := 0, fields := [(0, 1, false), (1, 1, false), (2, 1, false), (3, 4, true)], eqs := none } := by kernel_rfl
theorem is51 : isStructT E.P 51 = true := by kernel_rfl
theorem plan_3_10 : E.plan 3 10 = [(.no, 0), (.no, 1), (.quiet, 2), (.no, 3), (.no, 4)] := rfl
theorem plan_5_3 : E.plan 5 3 = [(.frz 5, 1), (.no, 2), (.no, 3), (.no, 4), (.no, 6), (.no, 7), (.no, 8), (.no, 9), (.no, 10), (.soft [15, 20] [1, 5, 15, 16, 17, 18, 20, 21, 22, 23, 24], 0), (.soft [20] [1, 5, 20, 21, 22, 23, 24], 5), (.no, 11), (.no, 12), (.no, 13)] := rfl
theorem plan_16_6 : E.plan 16 6 = [(.no, 0), (.no, 1), (.no, 2), (.no, 3), (.no, 4), (.no, 5), (.no, 6), (.no, 7), (.no, 8), (.no, 9)] := rfl
theorem plan_20_5 : E.plan 20 5 = [(.no, 0), (.no, 1), (.no, 2), (.no, 3), (.no, 4), (.no, 5), (.no, 6), (.quiet, 7), (.soft [19] [3, 19, 20], 8), (.no, 9), (.no, 10), (.no, 11)] := rfl
theorem plan_22_5 : E.plan 22 5 = [(.no, 0), (.no, 1), (.no, 2), (.quiet, 3), (.soft [20] [3, 20, 21], 4), (.no, 5), (.no, 6), (.no, 7)] := rfl
theorem plan_31_6 : E.plan 31 6 = [(.no, 0), (.no, 1), (.no, 2), (.no, 3), (.no, 4), (.no, 5), (.no, 6), (.no, 7), (.no, 8), (.no, 9)] := rfl
theorem keep_7_3 : E.keep 7 3 = [1, 4, 5, 13, 14, 15] := rfl
theorem keep_11_5 : E.keep 11 5 = [0, 1, 5] := rfl
theorem keep_12_3 : E.keep 12 3 = [1, 2, 3, 4] := rfl
theorem keep_14_3 : E.keep 14 3 = [0, 3, 4] := rfl
theorem keep_15_3 : E.keep 15 3 = [3, 7, 8, 9] := rfl
theorem keep_16_4 : E.keep 16 4 = [0, 1, 5] := rfl
theorem keep_17_2 : E.keep 17 2 = [0, 1, 5] := rfl
theorem keep_18_2 : E.keep 18 2 = [0, 1, 5] := rfl
theorem keep_20_3 : E.keep 20 3 = [1, 2, 3, 4] := rfl
theorem keep_22_3 : E.keep 22 3 = [2, 3, 14, 15, 16] := rfl
theorem keep_24_2 : E.keep 24 2 = [0, 1, 5] := rfl
theorem keep_25_2 : E.keep 25 2 = [0, 1, 5] := rfl
theorem keep_29_5 : E.keep 29 5 = [0, 1, 5] := rfl
theorem keep_30_3 : E.keep 30 3 = [0, 3, 4] := rfl
theorem keep_31_4 : E.keep 31 4 = [0, 1, 5] := rfl
theorem md_3 : E.md 3 = [] := rfl
theorem md_4 : E.md 4 = [] := rfl
theorem md_5 : E.md 5 = [] := rfl
theorem md_6 : E.md 6 = [] := rfl
theorem md_7 : E.md 7 = [] := rfl
theorem md_8 : E.md 8 = [] := rfl
theorem md_9 : E.md 9 = [.«mut», .ro] := rfl
theorem md_10 : E.md 10 = [] := rfl
theorem md_11 : E.md 11 = [] := rfl
theorem md_12 : E.md 12 = [] := rfl
theorem md_13 : E.md 13 = [] := rfl
theorem md_14 : E.md 14 = [] := rfl
theorem md_15 : E.md 15 = [] := rfl
theorem md_16 : E.md 16 = [] := rfl
theorem md_17 : E.md 17 = [.«mut», .ro] := rfl
theorem md_18 : E.md 18 = [] := rfl
theorem md_19 : E.md 19 = [] := rfl
theorem md_20 : E.md 20 = [] := rfl
theorem md_21 : E.md 21 = [] := rfl
theorem md_22 : E.md 22 = [] := rfl
theorem md_23 : E.md 23 = [] := rfl
theorem md_24 : E.md 24 = [.«mut», .ro] := rfl
theorem md_25 : E.md 25 = [] := rfl
theorem md_26 : E.md 26 = [] := rfl
theorem md_27 : E.md 27 = [] := rfl
theorem md_28 : E.md 28 = [] := rfl
theorem md_29 : E.md 29 = [] := rfl
theorem md_30 : E.md 30 = [] := rfl
theorem md_31 : E.md 31 = [] := rfl
theorem tr_3 : E.tree 3 = false := rfl
theorem tr_4 : E.tree 4 = false := rfl
theorem tr_5 : E.tree 5 = false := rfl
theorem tr_6 : E.tree 6 = true := rfl
theorem tr_7 : E.tree 7 = true := rfl
theorem tr_8 : E.tree 8 = false := rfl
theorem tr_9 : E.tree 9 = false := rfl
theorem tr_10 : E.tree 10 = false := rfl
theorem tr_11 : E.tree 11 = false := rfl
theorem tr_12 : E.tree 12 = true := rfl
theorem tr_13 : E.tree 13 = false := rfl
theorem tr_14 : E.tree 14 = true := rfl
theorem tr_15 : E.tree 15 = true := rfl
theorem tr_16 : E.tree 16 = false := rfl
theorem tr_17 : E.tree 17 = false := rfl
theorem tr_18 : E.tree 18 = false := rfl
theorem tr_19 : E.tree 19 = false := rfl
theorem tr_20 : E.tree 20 = true := rfl
theorem tr_21 : E.tree 21 = true := rfl
theorem tr_22 : E.tree 22 = true := rfl
theorem tr_23 : E.tree 23 = false := rfl
theorem tr_24 : E.tree 24 = false := rfl
theorem tr_25 : E.tree 25 = false := rfl
theorem tr_26 : E.tree 26 = false := rfl
theorem tr_27 : E.tree 27 = true := rfl
theorem tr_28 : E.tree 28 = false := rfl
theorem tr_29 : E.tree 29 = false := rfl
theorem tr_30 : E.tree 30 = true := rfl
theorem tr_31 : E.tree 31 = false := rfl
theorem MDS : type_of% (And.intro (And.intro (And.intro (And.intro (And.intro @md_3 (And.intro @md_4 @md_5)) (And.intro (And.intro @md_6 @md_7) (And.intro @md_8 @md_9))) (And.intro (And.intro @md_10 (And.intro @md_11 @md_12)) (And.intro (And.intro @md_13 @md_14) (And.intro @md_15 @md_16)))) (And.intro (And.intro (And.intro @md_17 (And.intro @md_18 @md_19)) (And.intro (And.intro @md_20 @md_21) (And.intro @md_22 @md_23))) (And.intro (And.intro (And.intro @md_24 @md_25) (And.intro @md_26 @md_27)) (And.intro (And.intro @md_28 @md_29) (And.intro @md_30 @md_31))))) (And.intro (And.intro (And.intro (And.intro @tr_3 (And.intro @tr_4 @tr_5)) (And.intro (And.intro @tr_6 @tr_7) (And.intro @tr_8 @tr_9))) (And.intro (And.intro @tr_10 (And.intro @tr_11 @tr_12)) (And.intro (And.intro @tr_13 @tr_14) (And.intro @tr_15 @tr_16)))) (And.intro (And.intro (And.intro @tr_17 (And.intro @tr_18 @tr_19)) (And.intro (And.intro @tr_20 @tr_21) (And.intro @tr_22 @tr_23))) (And.intro (And.intro (And.intro @tr_24 @tr_25) (And.intro @tr_26 @tr_27)) (And.intro (And.intro @tr_28 @tr_29) (And.intro @tr_30 @tr_31)))))) := (And.intro (And.intro (And.intro (And.intro (And.intro @md_3 (And.intro @md_4 @md_5)) (And.intro (And.intro @md_6 @md_7) (And.intro @md_8 @md_9))) (And.intro (And.intro @md_10 (And.intro @md_11 @md_12)) (And.intro (And.intro @md_13 @md_14) (And.intro @md_15 @md_16)))) (And.intro (And.intro (And.intro @md_17 (And.intro @md_18 @md_19)) (And.intro (And.intro @md_20 @md_21) (And.intro @md_22 @md_23))) (And.intro (And.intro (And.intro @md_24 @md_25) (And.intro @md_26 @md_27)) (And.intro (And.intro @md_28 @md_29) (And.intro @md_30 @md_31))))) (And.intro (And.intro (And.intro (And.intro @tr_3 (And.intro @tr_4 @tr_5)) (And.intro (And.intro @tr_6 @tr_7) (And.intro @tr_8 @tr_9))) (And.intro (And.intro @tr_10 (And.intro @tr_11 @tr_12)) (And.intro (And.intro @tr_13 @tr_14) (And.intro @tr_15 @tr_16)))) (And.intro (And.intro (And.intro @tr_17 (And.intro @tr_18 @tr_19)) (And.intro (And.intro @tr_20 @tr_21) (And.intro @tr_22 @tr_23))) (And.intro (And.intro (And.intro @tr_24 @tr_25) (And.intro @tr_26 @tr_27)) (And.intro (And.intro @tr_28 @tr_29) (And.intro @tr_30 @tr_31))))))
theorem TIS : type_of% (And.intro (And.intro (And.intro (And.intro @ti3 @ti4) (And.intro @ti22 (And.intro @sl22 @ti24))) (And.intro (And.intro @is24 (And.intro @ti26 @sl26)) (And.intro @ti28 (And.intro @is28 @ti39)))) (And.intro (And.intro (And.intro @sl39 @ti41) (And.intro @is41 (And.intro @ti43 @is43))) (And.intro (And.intro @ti47 (And.intro @sl47 @ti49)) (And.intro @is49 (And.intro @ti51 @is51))))) := (And.intro (And.intro (And.intro (And.intro @ti3 @ti4) (And.intro @ti22 (And.intro @sl22 @ti24))) (And.intro (And.intro @is24 (And.intro @ti26 @sl26)) (And.intro @ti28 (And.intro @is28 @ti39)))) (And.intro (And.intro (And.intro @sl39 @ti41) (And.intro @is41 (And.intro @ti43 @is43))) (And.intro (And.intro @ti47 (And.intro @sl47 @ti49)) (And.intro @is49 (And.intro @ti51 @is51)))))
end Go.Proofs.Ytkolknigffoleaa.Flat
