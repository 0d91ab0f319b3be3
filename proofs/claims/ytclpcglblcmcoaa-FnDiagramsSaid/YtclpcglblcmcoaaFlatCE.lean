/-
The program's functions, and how they are reckoned with: tables.
-/
import Derived.Test.YtclpcglblcmcoaaFlatM5
import Derived.Test.YtclpcglblcmcoaaFlatM4
import Derived.Test.YtclpcglblcmcoaaProg
import Derived.KernelRfl
set_option linter.unusedVariables false
set_option linter.unusedSimpArgs false
namespace Go.Proofs.Ytclpcglblcmcoaa.Flat
def keepT : Nat → Nat → List Nat
  | 3, 15 => [8, 9, 11, 12]
  | 7, 2 => [1, 6, 7, 8]
  | 8, 4 => [0, 1, 5]
  | 9, 5 => [1, 3, 12, 13]
  | 10, 5 => [2, 4, 5, 6, 7]
  | 12, 8 => [1, 3, 4, 5]
  | 12, 2 => [1, 3]
  | 13, 3 => [3, 8, 9, 10]
  | 14, 2 => [0, 1, 5]
  | 15, 3 => [0, 3, 4]
  | 17, 4 => [0, 1, 5, 6, 7]
  | 21, 4 => [2, 3, 31, 32, 33]
  | 22, 2 => [1, 2, 5]
  | 23, 3 => [1, 5, 8, 9]
  | 31, 3 => [0, 3, 4]
  | 32, 2 => [0, 3, 7, 8]
  | 49, 11 => [0, 11, 12]
  | _, _ => []
def planT : Nat → Nat → List (Qt × Nat)
  | 3, 10 => [(.no, 0), (.no, 1), (.no, 2), (.still, 3), (.still, 4), (.no, 5), (.no, 6), (.no, 7), (.still, 8), (.soft [] [57, 64], 9), (.no, 10)]
  | 3, 11 => [(.no, 0), (.no, 1), (.no, 2), (.no, 3), (.no, 5), (.quiet, 4), (.no, 6), (.no, 7), (.no, 8), (.no, 9), (.no, 10), (.no, 11), (.no, 12), (.no, 14), (.no, 15), (.quiet, 13), (.no, 16), (.no, 17), (.no, 18), (.no, 19), (.no, 20), (.no, 21), (.no, 22), (.no, 23), (.no, 24), (.no, 25), (.no, 26), (.no, 27)]
  | 3, 19 => [(.no, 0), (.no, 1), (.no, 2), (.no, 3), (.no, 4), (.no, 5), (.no, 6), (.no, 8), (.no, 9), (.quiet, 7), (.no, 10), (.no, 11), (.no, 12)]
  | 7, 4 => [(.no, 0), (.no, 1), (.no, 2), (.no, 3), (.no, 4), (.no, 5), (.no, 6), (.no, 7), (.no, 8)]
  | 8, 6 => [(.no, 0), (.no, 1), (.no, 2), (.no, 3), (.no, 4), (.no, 5), (.no, 6), (.no, 7), (.no, 8)]
  | 9, 7 => [(.no, 0), (.no, 1), (.no, 2), (.no, 3), (.no, 4), (.quiet, 5), (.quiet, 6), (.soft [] [3, 16], 7), (.no, 8), (.no, 9)]
  | 12, 10 => [(.no, 0), (.no, 1), (.no, 2), (.no, 3), (.no, 4), (.no, 5), (.no, 6)]
  | 20, 10 => [(.no, 0), (.no, 1), (.no, 2), (.no, 3), (.no, 4), (.no, 5), (.no, 6)]
  | 20, 13 => [(.no, 0), (.no, 1), (.no, 2), (.no, 3), (.no, 4), (.no, 5), (.soft [59] [0, 56, 57, 58, 59, 60], 6), (.soft [] [0, 56], 7), (.no, 8), (.no, 9), (.no, 10)]
  | 21, 6 => [(.no, 0), (.no, 1), (.no, 2), (.no, 3), (.no, 4), (.no, 5), (.no, 6), (.no, 7), (.no, 8), (.no, 9), (.no, 10), (.no, 11), (.no, 12), (.no, 13), (.no, 14), (.no, 15), (.no, 16), (.no, 17), (.no, 18), (.no, 19)]
  | 24, 6 => [(.no, 0), (.no, 1), (.no, 2), (.no, 4), (.quiet, 5), (.no, 7), (.quiet, 8), (.soft [16] [0, 3, 16, 17, 20, 21, 23, 24], 3), (.soft [16] [0, 3, 16, 17, 23, 24], 6), (.soft [16] [3, 16, 17], 9), (.no, 10), (.soft [16] [3, 16, 17], 11), (.no, 12), (.no, 13), (.no, 14)]
  | 27, 3 => [(.no, 0), (.no, 1), (.no, 2), (.no, 3), (.no, 4), (.no, 5), (.no, 6), (.no, 7), (.no, 8), (.no, 9), (.no, 10), (.no, 11), (.no, 12), (.no, 13), (.no, 14), (.no, 15), (.no, 16), (.no, 17), (.no, 18), (.no, 19)]
  | 30, 2 => [(.no, 0), (.no, 1), (.no, 2), (.no, 3), (.no, 4), (.no, 5), (.no, 6), (.no, 7), (.no, 8), (.no, 9), (.no, 10), (.no, 11), (.no, 12)]
  | 30, 3 => [(.no, 0), (.no, 1), (.no, 2), (.no, 3), (.no, 4), (.no, 5), (.no, 6), (.no, 7), (.no, 8), (.no, 9)]
  | 30, 4 => [(.no, 0), (.no, 1), (.no, 2), (.no, 3), (.no, 4), (.no, 5), (.no, 6), (.no, 7), (.no, 8), (.no, 9), (.no, 10), (.no, 11), (.no, 12), (.no, 13), (.no, 14)]
  | 32, 4 => [(.no, 0), (.no, 1), (.no, 2), (.no, 3), (.no, 4), (.no, 5)]
  | 49, 13 => [(.no, 0), (.no, 1), (.no, 2), (.no, 3), (.no, 4), (.no, 5), (.no, 6), (.no, 7), (.no, 8)]
  | 49, 15 => [(.no, 0), (.no, 1), (.no, 2), (.no, 3), (.no, 4), (.no, 5), (.soft [68] [0, 65, 66, 67, 68, 69], 6), (.soft [] [0, 65], 7), (.no, 8), (.no, 9), (.no, 10)]
  | _, _ => []
def okT : List Nat := [3, 4, 5, 6, 7, 8, 9, 10, 11, 12, 13, 14, 15, 16, 17, 18, 19, 20, 21, 22, 23, 24, 25, 26, 27, 30, 31, 32, 33, 34, 37, 49]
def treeT : List Nat := []
def mdT : Nat → List Mode
  | 15 => [.give]
  | 16 => [.io, .ro]
  | 17 => [.io, .ro]
  | 18 => [.io, .ro]
  | 20 => [.io, .ro, .ro, .ro]
  | 24 => [.io]
  | 25 => [.io, .ro]
  | 28 => [.«mut»]
  | 29 => [.give]
  | 30 => [.io]
  | 34 => [.io]
  | 49 => [.io, .ro, .ro, .ro]
  | _ => []
noncomputable def E : Env := { P := Go.Proofs.Try.prog, md := mdT, keep := keepT, plan := planT, ok := fun f => okT.contains f, tree := fun f => treeT.contains f }
theorem mixed : E.P.follows .mixedOrders = true := by kernel_rfl
def good1 (P : Program) (plan : Nat → Nat → List (Qt × Nat)) (md : Nat → List Mode) (f : Nat) : Bool :=
  match P.funcs[f]? with
  | some fn => (match fn.body with | some c => codeOK (plan f) c && codePin (mutSlots 0 (md f)) c | none => true) && !(fn.name == "runtime.NumGoroutine")
  | none => true
theorem good1_ok {E : Env} {l : List Nat} (ho : ∀ f, E.ok f = true → f ∈ l) (h : l.all (good1 E.P E.plan E.md) = true) : Sound E := by
  intro f hf fn c hfn hc
  have h1 := List.all_eq_true.1 h f (ho f hf)
  simp -implicitDefEqProofs only [good1, hfn, hc, Bool.and_eq_true, Bool.not_eq_true', beq_eq_false_iff_ne, ne_eq] at h1
  exact ⟨h1.1.1, h1.2, h1.1.2⟩
theorem sound : Sound E := good1_ok (l := okT) (fun f hf => by simpa [E] using hf) (by kernel_rfl)
def extT : Nat → Option (List AV → List (List AV) → Option (AV × List (List AV)))
  | 28 => some sortExt
  | 29 => some compactExt
  | _ => none
abbrev noExt : Nat → Option (List AV → List (List AV) → Option (AV × List (List AV))) := extT
theorem ext_28 : noExt 28 = some sortExt := rfl
theorem ext_29 : noExt 29 = some compactExt := rfl
abbrev nSort : Nat := 28
abbrev nCompact : Nat := 29
abbrev tBool : Nat := 4
theorem tagBool : tagOf E.P 4 = .bool := by kernel_rfl
theorem one_ne : (1 = 0) = False := by simp
theorem ti3 : tiOf E.P 3 = some { tag := Tag.int IntKind.i64, agg := false, size := 1, bytes := 8, zero := some (Value.int IntKind.i64 0), elem := 0, fields := [], eqs := none } := by kernel_rfl
theorem ti4 : tiOf E.P 4 = some { tag := Tag.bool, agg := false, size := 1, bytes := 1, zero := some (Value.bool false), elem := 0, fields := [], eqs := none } := by kernel_rfl
theorem ti5 : tiOf E.P 5 = some { tag := Tag.int IntKind.u8, agg := false, size := 1, bytes := 1, zero := some (Value.int IntKind.u8 0), elem := 0, fields := [], eqs := none } := by kernel_rfl
theorem ti22 : tiOf E.P 22 = some { tag := Tag.slice, agg := false, size := 1, bytes := 24, zero := some (Value.slice none 0 0), elem := 5, fields := [], eqs := none } := by kernel_rfl
theorem sl22 : isSliceT E.P 22 = true := by kernel_rfl
theorem ti24 : tiOf E.P 24 = some { tag := Tag.slice, agg := false, size := 1, bytes := 24, zero := some (Value.slice none 0 0), elem := 4, fields := [], eqs := none } := by kernel_rfl
theorem sl24 : isSliceT E.P 24 = true := by kernel_rfl
theorem ti27 : tiOf E.P 27 = some { tag := Tag.slice, agg := false, size := 1, bytes := 24, zero := some (Value.slice none 0 0), elem := 49, fields := [], eqs := none } := by kernel_rfl
theorem sl27 : isSliceT E.P 27 = true := by kernel_rfl
theorem ti29 : tiOf E.P 29 = some { tag := Tag.struct, agg := true, size := 3, bytes := 40, zero := some (Value.agg #[Value.int IntKind.i64 0, Value.slice none 0 0, Value.int IntKind.i64 0]), elem := 0, fields := [(0, 1, false), (1, 1, false), (2, 1, false)], eqs := none } := by kernel_rfl
theorem is29 : isStructT E.P 29 = true := by kernel_rfl
theorem ti38 : tiOf E.P 38 = some { tag := Tag.slice, agg := false, size := 1, bytes := 24, zero := some (Value.slice none 0 0), elem := 3, fields := [], eqs := none } := by kernel_rfl
theorem sl38 : isSliceT E.P 38 = true := by kernel_rfl
theorem ti49 : tiOf E.P 49 = some { tag := Tag.struct, agg := true, size := 3, bytes := 24, zero := some (Value.agg #[Value.int IntKind.i64 0, Value.int IntKind.i64 0, Value.int IntKind.i64 0]), elem := 0, fields := [(0, 1, false), (1, 1, false), (2, 1, false)], eqs := some [0, 0, 0] } := by kernel_rfl
theorem is49 : isStructT E.P 49 = true := by kernel_rfl
theorem ti58 : tiOf E.P 58 = some { tag := Tag.struct, agg := true, size := 3, bytes := 40, zero := some (Value.agg #[Value.slice none 0 0, Value.int IntKind.i64 0, Value.int IntKind.i64 0]), elem := 0, fields := [(0, 1, false), (1, 1, false), (2, 1, false)], eqs := none } := by kernel_rfl
theorem is58 : isStructT E.P 58 = true := by kernel_rfl
theorem plan_3_10 : E.plan 3 10 = [(.no, 0), (.no, 1), (.no, 2), (.still, 3), (.still, 4), (.no, 5), (.no, 6), (.no, 7), (.still, 8), (.soft [] [57, 64], 9), (.no, 10)] := rfl
theorem plan_3_11 : E.plan 3 11 = [(.no, 0), (.no, 1), (.no, 2), (.no, 3), (.no, 5), (.quiet, 4), (.no, 6), (.no, 7), (.no, 8), (.no, 9), (.no, 10), (.no, 11), (.no, 12), (.no, 14), (.no, 15), (.quiet, 13), (.no, 16), (.no, 17), (.no, 18), (.no, 19), (.no, 20), (.no, 21), (.no, 22), (.no, 23), (.no, 24), (.no, 25), (.no, 26), (.no, 27)] := rfl
theorem plan_3_19 : E.plan 3 19 = [(.no, 0), (.no, 1), (.no, 2), (.no, 3), (.no, 4), (.no, 5), (.no, 6), (.no, 8), (.no, 9), (.quiet, 7), (.no, 10), (.no, 11), (.no, 12)] := rfl
theorem plan_7_4 : E.plan 7 4 = [(.no, 0), (.no, 1), (.no, 2), (.no, 3), (.no, 4), (.no, 5), (.no, 6), (.no, 7), (.no, 8)] := rfl
theorem plan_8_6 : E.plan 8 6 = [(.no, 0), (.no, 1), (.no, 2), (.no, 3), (.no, 4), (.no, 5), (.no, 6), (.no, 7), (.no, 8)] := rfl
theorem plan_9_7 : E.plan 9 7 = [(.no, 0), (.no, 1), (.no, 2), (.no, 3), (.no, 4), (.quiet, 5), (.quiet, 6), (.soft [] [3, 16], 7), (.no, 8), (.no, 9)] := rfl
theorem plan_12_10 : E.plan 12 10 = [(.no, 0), (.no, 1), (.no, 2), (.no, 3), (.no, 4), (.no, 5), (.no, 6)] := rfl
theorem plan_20_10 : E.plan 20 10 = [(.no, 0), (.no, 1), (.no, 2), (.no, 3), (.no, 4), (.no, 5), (.no, 6)] := rfl
theorem plan_20_13 : E.plan 20 13 = [(.no, 0), (.no, 1), (.no, 2), (.no, 3), (.no, 4), (.no, 5), (.soft [59] [0, 56, 57, 58, 59, 60], 6), (.soft [] [0, 56], 7), (.no, 8), (.no, 9), (.no, 10)] := rfl
theorem plan_21_6 : E.plan 21 6 = [(.no, 0), (.no, 1), (.no, 2), (.no, 3), (.no, 4), (.no, 5), (.no, 6), (.no, 7), (.no, 8), (.no, 9), (.no, 10), (.no, 11), (.no, 12), (.no, 13), (.no, 14), (.no, 15), (.no, 16), (.no, 17), (.no, 18), (.no, 19)] := rfl
theorem plan_24_6 : E.plan 24 6 = [(.no, 0), (.no, 1), (.no, 2), (.no, 4), (.quiet, 5), (.no, 7), (.quiet, 8), (.soft [16] [0, 3, 16, 17, 20, 21, 23, 24], 3), (.soft [16] [0, 3, 16, 17, 23, 24], 6), (.soft [16] [3, 16, 17], 9), (.no, 10), (.soft [16] [3, 16, 17], 11), (.no, 12), (.no, 13), (.no, 14)] := rfl
theorem plan_27_3 : E.plan 27 3 = [(.no, 0), (.no, 1), (.no, 2), (.no, 3), (.no, 4), (.no, 5), (.no, 6), (.no, 7), (.no, 8), (.no, 9), (.no, 10), (.no, 11), (.no, 12), (.no, 13), (.no, 14), (.no, 15), (.no, 16), (.no, 17), (.no, 18), (.no, 19)] := rfl
theorem plan_30_2 : E.plan 30 2 = [(.no, 0), (.no, 1), (.no, 2), (.no, 3), (.no, 4), (.no, 5), (.no, 6), (.no, 7), (.no, 8), (.no, 9), (.no, 10), (.no, 11), (.no, 12)] := rfl
theorem plan_30_3 : E.plan 30 3 = [(.no, 0), (.no, 1), (.no, 2), (.no, 3), (.no, 4), (.no, 5), (.no, 6), (.no, 7), (.no, 8), (.no, 9)] := rfl
theorem plan_30_4 : E.plan 30 4 = [(.no, 0), (.no, 1), (.no, 2), (.no, 3), (.no, 4), (.no, 5), (.no, 6), (.no, 7), (.no, 8), (.no, 9), (.no, 10), (.no, 11), (.no, 12), (.no, 13), (.no, 14)] := rfl
theorem plan_32_4 : E.plan 32 4 = [(.no, 0), (.no, 1), (.no, 2), (.no, 3), (.no, 4), (.no, 5)] := rfl
theorem plan_49_13 : E.plan 49 13 = [(.no, 0), (.no, 1), (.no, 2), (.no, 3), (.no, 4), (.no, 5), (.no, 6), (.no, 7), (.no, 8)] := rfl
theorem plan_49_15 : E.plan 49 15 = [(.no, 0), (.no, 1), (.no, 2), (.no, 3), (.no, 4), (.no, 5), (.soft [68] [0, 65, 66, 67, 68, 69], 6), (.soft [] [0, 65], 7), (.no, 8), (.no, 9), (.no, 10)] := rfl
theorem keep_3_15 : E.keep 3 15 = [8, 9, 11, 12] := rfl
theorem keep_7_2 : E.keep 7 2 = [1, 6, 7, 8] := rfl
theorem keep_8_4 : E.keep 8 4 = [0, 1, 5] := rfl
theorem keep_9_5 : E.keep 9 5 = [1, 3, 12, 13] := rfl
theorem keep_10_5 : E.keep 10 5 = [2, 4, 5, 6, 7] := rfl
theorem keep_12_8 : E.keep 12 8 = [1, 3, 4, 5] := rfl
theorem keep_12_2 : E.keep 12 2 = [1, 3] := rfl
theorem keep_13_3 : E.keep 13 3 = [3, 8, 9, 10] := rfl
theorem keep_14_2 : E.keep 14 2 = [0, 1, 5] := rfl
theorem keep_15_3 : E.keep 15 3 = [0, 3, 4] := rfl
theorem keep_17_4 : E.keep 17 4 = [0, 1, 5, 6, 7] := rfl
theorem keep_21_4 : E.keep 21 4 = [2, 3, 31, 32, 33] := rfl
theorem keep_22_2 : E.keep 22 2 = [1, 2, 5] := rfl
theorem keep_23_3 : E.keep 23 3 = [1, 5, 8, 9] := rfl
theorem keep_31_3 : E.keep 31 3 = [0, 3, 4] := rfl
theorem keep_32_2 : E.keep 32 2 = [0, 3, 7, 8] := rfl
theorem keep_49_11 : E.keep 49 11 = [0, 11, 12] := rfl
theorem md_3 : E.md 3 = [] := rfl
theorem md_4 : E.md 4 = [] := rfl
theorem md_5 : E.md 5 = [] := rfl
theorem md_6 : E.md 6 = [] := rfl
theorem md_7 : E.md 7 = [] := rfl
theorem md_8 : E.md 8 = [] := rfl
theorem md_9 : E.md 9 = [] := rfl
theorem md_10 : E.md 10 = [] := rfl
theorem md_11 : E.md 11 = [] := rfl
theorem md_12 : E.md 12 = [] := rfl
theorem md_13 : E.md 13 = [] := rfl
theorem md_14 : E.md 14 = [] := rfl
theorem md_15 : E.md 15 = [.give] := rfl
theorem md_16 : E.md 16 = [.io, .ro] := rfl
theorem md_17 : E.md 17 = [.io, .ro] := rfl
theorem md_18 : E.md 18 = [.io, .ro] := rfl
theorem md_19 : E.md 19 = [] := rfl
theorem md_20 : E.md 20 = [.io, .ro, .ro, .ro] := rfl
theorem md_21 : E.md 21 = [] := rfl
theorem md_22 : E.md 22 = [] := rfl
theorem md_23 : E.md 23 = [] := rfl
theorem md_24 : E.md 24 = [.io] := rfl
theorem md_25 : E.md 25 = [.io, .ro] := rfl
theorem md_26 : E.md 26 = [] := rfl
theorem md_27 : E.md 27 = [] := rfl
theorem md_28 : E.md 28 = [.«mut»] := rfl
theorem md_29 : E.md 29 = [.give] := rfl
theorem md_30 : E.md 30 = [.io] := rfl
theorem md_31 : E.md 31 = [] := rfl
theorem md_32 : E.md 32 = [] := rfl
theorem md_33 : E.md 33 = [] := rfl
theorem md_34 : E.md 34 = [.io] := rfl
theorem md_37 : E.md 37 = [] := rfl
theorem md_49 : E.md 49 = [.io, .ro, .ro, .ro] := rfl
theorem tr_3 : E.tree 3 = false := rfl
theorem tr_4 : E.tree 4 = false := rfl
theorem tr_5 : E.tree 5 = false := rfl
theorem tr_6 : E.tree 6 = false := rfl
theorem tr_7 : E.tree 7 = false := rfl
theorem tr_8 : E.tree 8 = false := rfl
theorem tr_9 : E.tree 9 = false := rfl
theorem tr_10 : E.tree 10 = false := rfl
theorem tr_11 : E.tree 11 = false := rfl
theorem tr_12 : E.tree 12 = false := rfl
theorem tr_13 : E.tree 13 = false := rfl
theorem tr_14 : E.tree 14 = false := rfl
theorem tr_15 : E.tree 15 = false := rfl
theorem tr_16 : E.tree 16 = false := rfl
theorem tr_17 : E.tree 17 = false := rfl
theorem tr_18 : E.tree 18 = false := rfl
theorem tr_19 : E.tree 19 = false := rfl
theorem tr_20 : E.tree 20 = false := rfl
theorem tr_21 : E.tree 21 = false := rfl
theorem tr_22 : E.tree 22 = false := rfl
theorem tr_23 : E.tree 23 = false := rfl
theorem tr_24 : E.tree 24 = false := rfl
theorem tr_25 : E.tree 25 = false := rfl
theorem tr_26 : E.tree 26 = false := rfl
theorem tr_27 : E.tree 27 = false := rfl
theorem tr_30 : E.tree 30 = false := rfl
theorem tr_31 : E.tree 31 = false := rfl
theorem tr_32 : E.tree 32 = false := rfl
theorem tr_33 : E.tree 33 = false := rfl
theorem tr_34 : E.tree 34 = false := rfl
theorem tr_37 : E.tree 37 = false := rfl
theorem tr_49 : E.tree 49 = false := rfl
theorem MDS : type_of% (And.intro (And.intro (And.intro (And.intro (And.intro (And.intro @md_3 @md_4) (And.intro @md_5 @md_6)) (And.intro (And.intro @md_7 @md_8) (And.intro @md_9 @md_10))) (And.intro (And.intro (And.intro @md_11 @md_12) (And.intro @md_13 @md_14)) (And.intro (And.intro @md_15 @md_16) (And.intro @md_17 @md_18)))) (And.intro (And.intro (And.intro (And.intro @md_19 @md_20) (And.intro @md_21 @md_22)) (And.intro (And.intro @md_23 @md_24) (And.intro @md_25 @md_26))) (And.intro (And.intro (And.intro @md_27 @md_28) (And.intro @md_29 @md_30)) (And.intro (And.intro @md_31 @md_32) (And.intro @md_33 (And.intro @md_34 @md_37)))))) (And.intro (And.intro (And.intro (And.intro (And.intro @md_49 @tr_3) (And.intro @tr_4 @tr_5)) (And.intro (And.intro @tr_6 @tr_7) (And.intro @tr_8 @tr_9))) (And.intro (And.intro (And.intro @tr_10 @tr_11) (And.intro @tr_12 @tr_13)) (And.intro (And.intro @tr_14 @tr_15) (And.intro @tr_16 @tr_17)))) (And.intro (And.intro (And.intro (And.intro @tr_18 @tr_19) (And.intro @tr_20 @tr_21)) (And.intro (And.intro @tr_22 @tr_23) (And.intro @tr_24 @tr_25))) (And.intro (And.intro (And.intro @tr_26 @tr_27) (And.intro @tr_30 @tr_31)) (And.intro (And.intro @tr_32 @tr_33) (And.intro @tr_34 (And.intro @tr_37 @tr_49))))))) := (And.intro (And.intro (And.intro (And.intro (And.intro (And.intro @md_3 @md_4) (And.intro @md_5 @md_6)) (And.intro (And.intro @md_7 @md_8) (And.intro @md_9 @md_10))) (And.intro (And.intro (And.intro @md_11 @md_12) (And.intro @md_13 @md_14)) (And.intro (And.intro @md_15 @md_16) (And.intro @md_17 @md_18)))) (And.intro (And.intro (And.intro (And.intro @md_19 @md_20) (And.intro @md_21 @md_22)) (And.intro (And.intro @md_23 @md_24) (And.intro @md_25 @md_26))) (And.intro (And.intro (And.intro @md_27 @md_28) (And.intro @md_29 @md_30)) (And.intro (And.intro @md_31 @md_32) (And.intro @md_33 (And.intro @md_34 @md_37)))))) (And.intro (And.intro (And.intro (And.intro (And.intro @md_49 @tr_3) (And.intro @tr_4 @tr_5)) (And.intro (And.intro @tr_6 @tr_7) (And.intro @tr_8 @tr_9))) (And.intro (And.intro (And.intro @tr_10 @tr_11) (And.intro @tr_12 @tr_13)) (And.intro (And.intro @tr_14 @tr_15) (And.intro @tr_16 @tr_17)))) (And.intro (And.intro (And.intro (And.intro @tr_18 @tr_19) (And.intro @tr_20 @tr_21)) (And.intro (And.intro @tr_22 @tr_23) (And.intro @tr_24 @tr_25))) (And.intro (And.intro (And.intro @tr_26 @tr_27) (And.intro @tr_30 @tr_31)) (And.intro (And.intro @tr_32 @tr_33) (And.intro @tr_34 (And.intro @tr_37 @tr_49)))))))
theorem TIS : type_of% (And.intro (And.intro (And.intro (And.intro @ti3 @ti4) (And.intro @ti5 @ti22)) (And.intro (And.intro @sl22 @ti24) (And.intro @sl24 @ti27))) (And.intro (And.intro (And.intro @sl27 @ti29) (And.intro @is29 @ti38)) (And.intro (And.intro @sl38 @ti49) (And.intro @is49 (And.intro @ti58 @is58))))) := (And.intro (And.intro (And.intro (And.intro @ti3 @ti4) (And.intro @ti5 @ti22)) (And.intro (And.intro @sl22 @ti24) (And.intro @sl24 @ti27))) (And.intro (And.intro (And.intro @sl27 @ti29) (And.intro @is29 @ti38)) (And.intro (And.intro @sl38 @ti49) (And.intro @is49 (And.intro @ti58 @is58)))))
end Go.Proofs.Ytclpcglblcmcoaa.Flat
