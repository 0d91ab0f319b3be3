/-
The program's functions, and how they are reckoned with: tables.
-/
import Derived.Test.YtagbfaeddlgckaaDoorFlatM5
import Derived.Test.YtagbfaeddlgckaaDoorFlatM4
import Derived.Test.YtagbfaeddlgckaaDoorProg
import Derived.KernelRfl
set_option linter.unusedVariables false
set_option linter.unusedSimpArgs false
namespace Go.Proofs.YtagbfaeddlgckaaDoor.Flat
def keepT : Nat → Nat → List Nat
  | 15, 5 => [0, 3, 4]
  | 19, 18 => [0, 2, 6, 15, 16, 17, 18]
  | 24, 4 => [0, 1, 5]
  | 25, 2 => [0, 1, 5]
  | 26, 2 => [0, 1, 5]
  | 37, 2 => [0, 1, 6]
  | 40, 3 => [1, 2, 5]
  | 41, 4 => [1, 3]
  | 45, 2 => [0, 1, 7, 8]
  | 48, 3 => [0, 3]
  | 52, 5 => [0, 4, 5]
  | 57, 3 => [3, 7, 8, 9]
  | 70, 10 => [5, 6, 47, 48, 49]
  | 73, 2 => [0, 1, 7, 8]
  | 86, 36 => [1, 8, 9, 10, 11, 12, 13, 99, 100, 101]
  | 90, 10 => [0, 3, 4, 5]
  | _, _ => []
def planT : Nat → Nat → List (Qt × Nat)
  | 5, 3 => [(.no, 0), (.no, 1), (.no, 4), (.no, 5), (.no, 9), (.no, 10), (.no, 14), (.no, 15), (.no, 19), (.no, 20), (.no, 24), (.no, 25), (.quiet, 2), (.no, 3), (.quiet, 6), (.no, 7), (.no, 8), (.quiet, 11), (.no, 12), (.no, 13), (.quiet, 16), (.no, 17), (.no, 18), (.quiet, 21), (.no, 22), (.no, 23), (.quiet, 26), (.no, 27), (.no, 28)]
  | 7, 3 => [(.no, 0), (.no, 1), (.no, 4), (.no, 5), (.no, 9), (.no, 10), (.no, 14), (.no, 15), (.no, 19), (.no, 20), (.no, 24), (.no, 25), (.quiet, 2), (.no, 3), (.quiet, 6), (.no, 7), (.no, 8), (.quiet, 11), (.no, 12), (.no, 13), (.quiet, 16), (.no, 17), (.no, 18), (.quiet, 21), (.no, 22), (.no, 23), (.quiet, 26), (.no, 27), (.no, 28)]
  | 14, 3 => [(.no, 1), (.no, 2), (.no, 5), (.no, 6), (.flo, 7), (.soft [] [0, 7, 8, 11, 12, 13], 0), (.no, 3), (.no, 4), (.no, 8), (.no, 9)]
  | 17, 3 => [(.no, 0), (.no, 1), (.no, 4), (.no, 5), (.quiet, 2), (.no, 3), (.quiet, 6), (.no, 7), (.no, 8)]
  | 22, 9 => [(.no, 0), (.no, 1), (.no, 2), (.no, 3), (.no, 4)]
  | 24, 6 => [(.no, 0), (.no, 1), (.no, 2), (.no, 3), (.no, 4), (.no, 5), (.no, 6), (.no, 7), (.no, 8), (.no, 9)]
  | 42, 6 => [(.no, 0), (.no, 1), (.no, 2), (.no, 3), (.no, 7), (.no, 8), (.quiet, 4), (.no, 5), (.no, 6), (.quiet, 9), (.no, 10), (.no, 11)]
  | 42, 15 => [(.no, 0), (.no, 1), (.no, 2), (.no, 3), (.no, 7), (.no, 10), (.no, 11), (.no, 12), (.no, 13), (.quiet, 4), (.no, 5), (.no, 6), (.no, 8), (.no, 9), (.quiet, 14), (.no, 15), (.no, 16), (.no, 17)]
  | 48, 6 => [(.no, 0), (.no, 1), (.no, 2), (.no, 3), (.no, 4), (.no, 5), (.no, 6), (.no, 7), (.no, 8), (.no, 9), (.no, 10), (.no, 11), (.no, 12), (.no, 13), (.no, 14), (.no, 15), (.no, 16), (.no, 17), (.soft [] [0, 5, 46, 57, 58, 59, 60], 18), (.no, 19), (.no, 20), (.no, 21)]
  | 50, 7 => [(.no, 0), (.no, 1), (.no, 2), (.no, 3), (.no, 7), (.no, 10), (.no, 11), (.no, 12), (.no, 13), (.quiet, 4), (.no, 5), (.no, 6), (.no, 8), (.no, 9), (.quiet, 14), (.no, 15), (.no, 16), (.no, 17)]
  | 53, 13 => [(.no, 0), (.no, 1), (.no, 2), (.no, 3), (.no, 4), (.no, 5), (.no, 6), (.no, 7), (.no, 8), (.no, 9), (.quiet, 10), (.no, 11), (.no, 12), (.no, 13)]
  | 63, 12 => [(.no, 0), (.no, 1), (.no, 2), (.no, 3), (.no, 4), (.quiet, 5), (.no, 6), (.no, 7), (.no, 8), (.no, 9), (.no, 10), (.no, 11), (.no, 12), (.no, 13), (.no, 14), (.no, 15), (.no, 16), (.no, 17), (.no, 18), (.no, 19)]
  | 80, 1 => [(.no, 0), (.no, 1), (.no, 3), (.quiet, 2), (.no, 4), (.no, 5), (.no, 6)]
  | 81, 1 => [(.no, 0), (.no, 1), (.no, 3), (.quiet, 2), (.no, 4), (.no, 5), (.no, 6)]
  | _, _ => []
def okT : List Nat := [3, 4, 5, 6, 7, 8, 9, 10, 11, 12, 13, 14, 15, 16, 17, 18, 19, 20, 21, 22, 23, 24, 25, 26, 27, 28, 29, 30, 31, 32, 33, 34, 35, 37, 38, 39, 40, 41, 42, 43, 44, 45, 46, 47, 48, 49, 50, 52, 53, 54, 55, 56, 57, 58, 60, 61, 62, 63, 64, 65, 70, 71, 72, 73, 79, 80, 81, 82, 83, 86, 87, 88, 89, 90]
def treeT : List Nat := []
def mdT : Nat → List Mode
  | 11 => [.«mut», .ro]
  | 22 => [.io]
  | 25 => [.«mut», .ro]
  | 44 => [.io]
  | 47 => [.io, .ro]
  | 48 => [.io]
  | _ => []
noncomputable def E : Env := { P := Go.Proofs.Tryd.prog, md := mdT, keep := keepT, plan := planT, ok := fun f => okT.contains f, tree := fun f => treeT.contains f }
theorem mixed : E.P.follows .mixedOrders = true := by kernel_rfl
def good1 (P : Program) (plan : Nat → Nat → List (Qt × Nat)) (md : Nat → List Mode) (f : Nat) : Bool :=
  match P.funcs[f]? with
  | some fn => (match fn.body with | some c => codeOK (plan f) c && codePin (mutSlots 0 (md f)) c | none => true) && !(fn.name == "runtime.NumGoroutine")
  | none => true
theorem good1_ok {E : Env} {l : List Nat} (ho : ∀ f, E.ok f = true → f ∈ l) (h : l.all (good1 E.P E.plan E.md) = true) : Sound E := by
  intro f hf fn c hfn hc
  have h1 := List.all_eq_true.1 h f (ho f hf)
  simp -implicitDefEqProofs only [good1, hfn, hc, Bool.and_eq_true, Bool.not_eq_true', beq_eq_false_iff_ne, ne_eq] at h1
  exact ⟨h1.1.1, h1.2, h1.1.2⟩
theorem sound : Sound E := good1_ok (l := okT) (fun f hf => by simpa [E] using hf) (by kernel_rfl)
def extT : Nat → Option (List AV → List (List AV) → Option (AV × List (List AV)))
  | 36 => some itoaAll
  | _ => none
abbrev noExt : Nat → Option (List AV → List (List AV) → Option (AV × List (List AV))) := extT
theorem ext_36 : noExt 36 = some itoaAll := rfl
abbrev nItoa : Nat := 36
abbrev tBool : Nat := 4
theorem tagBool : tagOf E.P 4 = .bool := by kernel_rfl
theorem one_ne : (1 = 0) = False := by simp
theorem ti2 : tiOf E.P 2 = some { tag := Tag.int IntKind.i64, agg := false, size := 1, bytes := 8, zero := some (Value.int IntKind.i64 0), elem := 0, fields := [], eqs := none } := by kernel_rfl
theorem ti3 : tiOf E.P 3 = some { tag := Tag.int IntKind.i64, agg := false, size := 1, bytes := 8, zero := some (Value.int IntKind.i64 0), elem := 0, fields := [], eqs := none } := by kernel_rfl
theorem ti4 : tiOf E.P 4 = some { tag := Tag.bool, agg := false, size := 1, bytes := 1, zero := some (Value.bool false), elem := 0, fields := [], eqs := none } := by kernel_rfl
theorem ti5 : tiOf E.P 5 = some { tag := Tag.int IntKind.u8, agg := false, size := 1, bytes := 1, zero := some (Value.int IntKind.u8 0), elem := 0, fields := [], eqs := none } := by kernel_rfl
theorem ti9 : tiOf E.P 9 = some { tag := Tag.string, agg := false, size := 1, bytes := 16, zero := some (Value.string { data := #[] }), elem := 0, fields := [], eqs := none } := by kernel_rfl
theorem st9 : isStringT E.P 9 = true := by kernel_rfl
theorem ti21 : tiOf E.P 21 = some { tag := Tag.int IntKind.i32, agg := false, size := 1, bytes := 4, zero := some (Value.int IntKind.i32 0), elem := 0, fields := [], eqs := none } := by kernel_rfl
theorem ti23 : tiOf E.P 23 = some { tag := Tag.struct, agg := true, size := 6, bytes := 48, zero := some (Value.agg #[Value.int IntKind.i64 0, Value.int IntKind.i64 0, Value.int IntKind.i64 0, Value.int IntKind.i64 0, Value.int IntKind.i64 0, Value.int IntKind.i64 0]), elem := 0, fields := [(0, 1, false), (1, 1, false), (2, 1, false), (3, 1, false), (4, 1, false), (5, 1, false)], eqs := some [0, 0, 0, 0, 0, 0] } := by kernel_rfl
theorem is23 : isStructT E.P 23 = true := by kernel_rfl
theorem ti25 : tiOf E.P 25 = some { tag := Tag.struct, agg := true, size := 6, bytes := 48, zero := some (Value.agg #[Value.int IntKind.i64 0, Value.int IntKind.i64 0, Value.int IntKind.i64 0, Value.int IntKind.i64 0, Value.int IntKind.i64 0, Value.int IntKind.i64 0]), elem := 0, fields := [(0, 1, false), (1, 1, false), (2, 1, false), (3, 1, false), (4, 1, false), (5, 1, false)], eqs := some [0, 0, 0, 0, 0, 0] } := by kernel_rfl
theorem is25 : isStructT E.P 25 = true := by kernel_rfl
theorem ti28 : tiOf E.P 28 = some { tag := Tag.slice, agg := false, size := 1, bytes := 24, zero := some (Value.slice none 0 0), elem := 30, fields := [], eqs := none } := by kernel_rfl
theorem sl28 : isSliceT E.P 28 = true := by kernel_rfl
theorem ti30 : tiOf E.P 30 = some { tag := Tag.struct, agg := true, size := 4, bytes := 48, zero := some (Value.agg #[Value.int IntKind.i64 0, Value.int IntKind.i64 0, Value.int IntKind.i64 0, Value.slice none 0 0]), elem := 0, fields := [(0, 1, false), (1, 1, false), (2, 1, false), (3, 1, false)], eqs := none } := by kernel_rfl
theorem is30 : isStructT E.P 30 = true := by kernel_rfl
theorem ti42 : tiOf E.P 42 = some { tag := Tag.other, agg := false, size := 1, bytes := 8, zero := some (Value.pointer none), elem := 0, fields := [], eqs := none } := by kernel_rfl
theorem ti44 : tiOf E.P 44 = some { tag := Tag.struct, agg := true, size := 2, bytes := 24, zero := some (Value.agg { toList := [Value.string { data := #[] }, Value.bool false] }), elem := 0, fields := [(0, 1, false), (1, 1, false)], eqs := some [2, 1] } := by kernel_rfl
theorem is44 : isStructT E.P 44 = true := by kernel_rfl
theorem ti51 : tiOf E.P 51 = some { tag := Tag.slice, agg := false, size := 1, bytes := 24, zero := some (Value.slice none 0 0), elem := 9, fields := [], eqs := none } := by kernel_rfl
theorem sl51 : isSliceT E.P 51 = true := by kernel_rfl
theorem ti52 : tiOf E.P 52 = some { tag := Tag.slice, agg := false, size := 1, bytes := 24, zero := some (Value.slice none 0 0), elem := 5, fields := [], eqs := none } := by kernel_rfl
theorem sl52 : isSliceT E.P 52 = true := by kernel_rfl
theorem ti53 : tiOf E.P 53 = some { tag := Tag.array 5, agg := true, size := 5, bytes := 80, zero := some (Value.agg { toList := [Value.string { data := #[] }, Value.string { data := #[] }, Value.string { data := #[] }, Value.string { data := #[] }, Value.string { data := #[] }] }), elem := 9, fields := [], eqs := none } := by kernel_rfl
theorem na53 : isSliceT E.P 53 = false := by kernel_rfl
theorem ar53 : isArrayT E.P 53 = some 5 := by kernel_rfl
theorem ns53 : isStructT E.P 53 = false := by kernel_rfl
theorem ti61 : tiOf E.P 61 = some { tag := Tag.array 10, agg := true, size := 10, bytes := 160, zero := some (Value.agg { toList := [Value.string { data := #[] }, Value.string { data := #[] }, Value.string { data := #[] }, Value.string { data := #[] }, Value.string { data := #[] }, Value.string { data := #[] }, Value.string { data := #[] }, Value.string { data := #[] }, Value.string { data := #[] }, Value.string { data := #[] }] }), elem := 9, fields := [], eqs := none } := by kernel_rfl
theorem na61 : isSliceT E.P 61 = false := by kernel_rfl
theorem ar61 : isArrayT E.P 61 = some 10 := by kernel_rfl
theorem ns61 : isStructT E.P 61 = false := by kernel_rfl
theorem ti71 : tiOf E.P 71 = some { tag := Tag.other, agg := false, size := 1, bytes := 16, zero := some Value.nilIface, elem := 0, fields := [], eqs := none } := by kernel_rfl
theorem ti76 : tiOf E.P 76 = some { tag := Tag.int IntKind.u64, agg := false, size := 1, bytes := 8, zero := some (Value.int IntKind.u64 0), elem := 0, fields := [], eqs := none } := by kernel_rfl
theorem ti87 : tiOf E.P 87 = some { tag := Tag.int IntKind.u64, agg := false, size := 1, bytes := 8, zero := some (Value.int IntKind.u64 0), elem := 0, fields := [], eqs := none } := by kernel_rfl
theorem ti100 : tiOf E.P 100 = some { tag := Tag.struct, agg := true, size := 3, bytes := 48, zero := some (Value.agg { toList := [Value.string { data := #[] }, Value.string { data := #[] }, Value.nilIface] }), elem := 0, fields := [(0, 1, false), (1, 1, false), (2, 1, false)], eqs := none } := by kernel_rfl
theorem is100 : isStructT E.P 100 = true := by kernel_rfl
theorem ti105 : tiOf E.P 105 = some { tag := Tag.other, agg := false, size := 1, bytes := 8, zero := some (Value.pointer none), elem := 0, fields := [], eqs := none } := by kernel_rfl
theorem ti108 : tiOf E.P 108 = some { tag := Tag.struct, agg := true, size := 1, bytes := 16, zero := some (Value.agg { toList := [Value.string { data := #[] }] }), elem := 0, fields := [(0, 1, false)], eqs := some [2] } := by kernel_rfl
theorem is108 : isStructT E.P 108 = true := by kernel_rfl
theorem plan_5_3 : E.plan 5 3 = [(.no, 0), (.no, 1), (.no, 4), (.no, 5), (.no, 9), (.no, 10), (.no, 14), (.no, 15), (.no, 19), (.no, 20), (.no, 24), (.no, 25), (.quiet, 2), (.no, 3), (.quiet, 6), (.no, 7), (.no, 8), (.quiet, 11), (.no, 12), (.no, 13), (.quiet, 16), (.no, 17), (.no, 18), (.quiet, 21), (.no, 22), (.no, 23), (.quiet, 26), (.no, 27), (.no, 28)] := rfl
theorem plan_7_3 : E.plan 7 3 = [(.no, 0), (.no, 1), (.no, 4), (.no, 5), (.no, 9), (.no, 10), (.no, 14), (.no, 15), (.no, 19), (.no, 20), (.no, 24), (.no, 25), (.quiet, 2), (.no, 3), (.quiet, 6), (.no, 7), (.no, 8), (.quiet, 11), (.no, 12), (.no, 13), (.quiet, 16), (.no, 17), (.no, 18), (.quiet, 21), (.no, 22), (.no, 23), (.quiet, 26), (.no, 27), (.no, 28)] := rfl
theorem plan_14_3 : E.plan 14 3 = [(.no, 1), (.no, 2), (.no, 5), (.no, 6), (.flo, 7), (.soft [] [0, 7, 8, 11, 12, 13], 0), (.no, 3), (.no, 4), (.no, 8), (.no, 9)] := rfl
theorem plan_17_3 : E.plan 17 3 = [(.no, 0), (.no, 1), (.no, 4), (.no, 5), (.quiet, 2), (.no, 3), (.quiet, 6), (.no, 7), (.no, 8)] := rfl
theorem plan_22_9 : E.plan 22 9 = [(.no, 0), (.no, 1), (.no, 2), (.no, 3), (.no, 4)] := rfl
theorem plan_24_6 : E.plan 24 6 = [(.no, 0), (.no, 1), (.no, 2), (.no, 3), (.no, 4), (.no, 5), (.no, 6), (.no, 7), (.no, 8), (.no, 9)] := rfl
theorem plan_42_6 : E.plan 42 6 = [(.no, 0), (.no, 1), (.no, 2), (.no, 3), (.no, 7), (.no, 8), (.quiet, 4), (.no, 5), (.no, 6), (.quiet, 9), (.no, 10), (.no, 11)] := rfl
theorem plan_42_15 : E.plan 42 15 = [(.no, 0), (.no, 1), (.no, 2), (.no, 3), (.no, 7), (.no, 10), (.no, 11), (.no, 12), (.no, 13), (.quiet, 4), (.no, 5), (.no, 6), (.no, 8), (.no, 9), (.quiet, 14), (.no, 15), (.no, 16), (.no, 17)] := rfl
theorem plan_48_6 : E.plan 48 6 = [(.no, 0), (.no, 1), (.no, 2), (.no, 3), (.no, 4), (.no, 5), (.no, 6), (.no, 7), (.no, 8), (.no, 9), (.no, 10), (.no, 11), (.no, 12), (.no, 13), (.no, 14), (.no, 15), (.no, 16), (.no, 17), (.soft [] [0, 5, 46, 57, 58, 59, 60], 18), (.no, 19), (.no, 20), (.no, 21)] := rfl
theorem plan_50_7 : E.plan 50 7 = [(.no, 0), (.no, 1), (.no, 2), (.no, 3), (.no, 7), (.no, 10), (.no, 11), (.no, 12), (.no, 13), (.quiet, 4), (.no, 5), (.no, 6), (.no, 8), (.no, 9), (.quiet, 14), (.no, 15), (.no, 16), (.no, 17)] := rfl
theorem plan_53_13 : E.plan 53 13 = [(.no, 0), (.no, 1), (.no, 2), (.no, 3), (.no, 4), (.no, 5), (.no, 6), (.no, 7), (.no, 8), (.no, 9), (.quiet, 10), (.no, 11), (.no, 12), (.no, 13)] := rfl
theorem plan_63_12 : E.plan 63 12 = [(.no, 0), (.no, 1), (.no, 2), (.no, 3), (.no, 4), (.quiet, 5), (.no, 6), (.no, 7), (.no, 8), (.no, 9), (.no, 10), (.no, 11), (.no, 12), (.no, 13), (.no, 14), (.no, 15), (.no, 16), (.no, 17), (.no, 18), (.no, 19)] := rfl
theorem plan_80_1 : E.plan 80 1 = [(.no, 0), (.no, 1), (.no, 3), (.quiet, 2), (.no, 4), (.no, 5), (.no, 6)] := rfl
theorem plan_81_1 : E.plan 81 1 = [(.no, 0), (.no, 1), (.no, 3), (.quiet, 2), (.no, 4), (.no, 5), (.no, 6)] := rfl
theorem keep_15_5 : E.keep 15 5 = [0, 3, 4] := rfl
theorem keep_19_18 : E.keep 19 18 = [0, 2, 6, 15, 16, 17, 18] := rfl
theorem keep_24_4 : E.keep 24 4 = [0, 1, 5] := rfl
theorem keep_25_2 : E.keep 25 2 = [0, 1, 5] := rfl
theorem keep_26_2 : E.keep 26 2 = [0, 1, 5] := rfl
theorem keep_37_2 : E.keep 37 2 = [0, 1, 6] := rfl
theorem keep_40_3 : E.keep 40 3 = [1, 2, 5] := rfl
theorem keep_41_4 : E.keep 41 4 = [1, 3] := rfl
theorem keep_45_2 : E.keep 45 2 = [0, 1, 7, 8] := rfl
theorem keep_48_3 : E.keep 48 3 = [0, 3] := rfl
theorem keep_52_5 : E.keep 52 5 = [0, 4, 5] := rfl
theorem keep_57_3 : E.keep 57 3 = [3, 7, 8, 9] := rfl
theorem keep_70_10 : E.keep 70 10 = [5, 6, 47, 48, 49] := rfl
theorem keep_73_2 : E.keep 73 2 = [0, 1, 7, 8] := rfl
theorem keep_86_36 : E.keep 86 36 = [1, 8, 9, 10, 11, 12, 13, 99, 100, 101] := rfl
theorem keep_90_10 : E.keep 90 10 = [0, 3, 4, 5] := rfl
theorem md_3 : E.md 3 = [] := rfl
theorem md_4 : E.md 4 = [] := rfl
theorem md_5 : E.md 5 = [] := rfl
theorem md_6 : E.md 6 = [] := rfl
theorem md_7 : E.md 7 = [] := rfl
theorem md_8 : E.md 8 = [] := rfl
theorem md_9 : E.md 9 = [] := rfl
theorem md_10 : E.md 10 = [] := rfl
theorem md_11 : E.md 11 = [.«mut», .ro] := rfl
theorem md_12 : E.md 12 = [] := rfl
theorem md_13 : E.md 13 = [] := rfl
theorem md_14 : E.md 14 = [] := rfl
theorem md_15 : E.md 15 = [] := rfl
theorem md_16 : E.md 16 = [] := rfl
theorem md_17 : E.md 17 = [] := rfl
theorem md_18 : E.md 18 = [] := rfl
theorem md_19 : E.md 19 = [] := rfl
theorem md_20 : E.md 20 = [] := rfl
theorem md_21 : E.md 21 = [] := rfl
theorem md_22 : E.md 22 = [.io] := rfl
theorem md_23 : E.md 23 = [] := rfl
theorem md_24 : E.md 24 = [] := rfl
theorem md_25 : E.md 25 = [.«mut», .ro] := rfl
theorem md_26 : E.md 26 = [] := rfl
theorem md_27 : E.md 27 = [] := rfl
theorem md_28 : E.md 28 = [] := rfl
theorem md_29 : E.md 29 = [] := rfl
theorem md_30 : E.md 30 = [] := rfl
theorem md_31 : E.md 31 = [] := rfl
theorem md_32 : E.md 32 = [] := rfl
theorem md_33 : E.md 33 = [] := rfl
theorem md_34 : E.md 34 = [] := rfl
theorem md_35 : E.md 35 = [] := rfl
theorem md_36 : E.md 36 = [] := rfl
theorem md_37 : E.md 37 = [] := rfl
theorem md_38 : E.md 38 = [] := rfl
theorem md_39 : E.md 39 = [] := rfl
theorem md_40 : E.md 40 = [] := rfl
theorem md_41 : E.md 41 = [] := rfl
theorem md_42 : E.md 42 = [] := rfl
theorem md_43 : E.md 43 = [] := rfl
theorem md_44 : E.md 44 = [.io] := rfl
theorem md_45 : E.md 45 = [] := rfl
theorem md_46 : E.md 46 = [] := rfl
theorem md_47 : E.md 47 = [.io, .ro] := rfl
theorem md_48 : E.md 48 = [.io] := rfl
theorem md_49 : E.md 49 = [] := rfl
theorem md_50 : E.md 50 = [] := rfl
theorem md_52 : E.md 52 = [] := rfl
theorem md_53 : E.md 53 = [] := rfl
theorem md_54 : E.md 54 = [] := rfl
theorem md_55 : E.md 55 = [] := rfl
theorem md_56 : E.md 56 = [] := rfl
theorem md_57 : E.md 57 = [] := rfl
theorem md_58 : E.md 58 = [] := rfl
theorem md_60 : E.md 60 = [] := rfl
theorem md_61 : E.md 61 = [] := rfl
theorem md_62 : E.md 62 = [] := rfl
theorem md_63 : E.md 63 = [] := rfl
theorem md_64 : E.md 64 = [] := rfl
theorem md_65 : E.md 65 = [] := rfl
theorem md_70 : E.md 70 = [] := rfl
theorem md_71 : E.md 71 = [] := rfl
theorem md_72 : E.md 72 = [] := rfl
theorem md_73 : E.md 73 = [] := rfl
theorem md_79 : E.md 79 = [] := rfl
theorem md_80 : E.md 80 = [] := rfl
theorem md_81 : E.md 81 = [] := rfl
theorem md_82 : E.md 82 = [] := rfl
theorem md_83 : E.md 83 = [] := rfl
theorem md_86 : E.md 86 = [] := rfl
theorem md_87 : E.md 87 = [] := rfl
theorem md_88 : E.md 88 = [] := rfl
theorem md_89 : E.md 89 = [] := rfl
theorem md_90 : E.md 90 = [] := rfl
theorem tr_3 : E.tree 3 = false := rfl
theorem tr_4 : E.tree 4 = false := rfl
theorem tr_5 : E.tree 5 = false := rfl
theorem tr_6 : E.tree 6 = false := rfl
theorem tr_7 : E.tree 7 = false := rfl
theorem tr_8 : E.tree 8 = false := rfl
theorem tr_9 : E.tree 9 = false := rfl
theorem tr_10 : E.tree 10 = false := rfl
theorem tr_11 : E.tree 11 = false := rfl
theorem tr_12 : E.tree 12 = false := rfl
theorem tr_13 : E.tree 13 = false := rfl
theorem tr_14 : E.tree 14 = false := rfl
theorem tr_15 : E.tree 15 = false := rfl
theorem tr_16 : E.tree 16 = false := rfl
theorem tr_17 : E.tree 17 = false := rfl
theorem tr_18 : E.tree 18 = false := rfl
theorem tr_19 : E.tree 19 = false := rfl
theorem tr_20 : E.tree 20 = false := rfl
theorem tr_21 : E.tree 21 = false := rfl
theorem tr_22 : E.tree 22 = false := rfl
theorem tr_23 : E.tree 23 = false := rfl
theorem tr_24 : E.tree 24 = false := rfl
theorem tr_25 : E.tree 25 = false := rfl
theorem tr_26 : E.tree 26 = false := rfl
theorem tr_27 : E.tree 27 = false := rfl
theorem tr_28 : E.tree 28 = false := rfl
theorem tr_29 : E.tree 29 = false := rfl
theorem tr_30 : E.tree 30 = false := rfl
theorem tr_31 : E.tree 31 = false := rfl
theorem tr_32 : E.tree 32 = false := rfl
theorem tr_33 : E.tree 33 = false := rfl
theorem tr_34 : E.tree 34 = false := rfl
theorem tr_35 : E.tree 35 = false := rfl
theorem tr_37 : E.tree 37 = false := rfl
theorem tr_38 : E.tree 38 = false := rfl
theorem tr_39 : E.tree 39 = false := rfl
theorem tr_40 : E.tree 40 = false := rfl
theorem tr_41 : E.tree 41 = false := rfl
theorem tr_42 : E.tree 42 = false := rfl
theorem tr_43 : E.tree 43 = false := rfl
theorem tr_44 : E.tree 44 = false := rfl
theorem tr_45 : E.tree 45 = false := rfl
theorem tr_46 : E.tree 46 = false := rfl
theorem tr_47 : E.tree 47 = false := rfl
theorem tr_48 : E.tree 48 = false := rfl
theorem tr_49 : E.tree 49 = false := rfl
theorem tr_50 : E.tree 50 = false := rfl
theorem tr_52 : E.tree 52 = false := rfl
theorem tr_53 : E.tree 53 = false := rfl
theorem tr_54 : E.tree 54 = false := rfl
theorem tr_55 : E.tree 55 = false := rfl
theorem tr_56 : E.tree 56 = false := rfl
theorem tr_57 : E.tree 57 = false := rfl
theorem tr_58 : E.tree 58 = false := rfl
theorem tr_60 : E.tree 60 = false := rfl
theorem tr_61 : E.tree 61 = false := rfl
theorem tr_62 : E.tree 62 = false := rfl
theorem tr_63 : E.tree 63 = false := rfl
theorem tr_64 : E.tree 64 = false := rfl
theorem tr_65 : E.tree 65 = false := rfl
theorem tr_70 : E.tree 70 = false := rfl
theorem tr_71 : E.tree 71 = false := rfl
theorem tr_72 : E.tree 72 = false := rfl
theorem tr_73 : E.tree 73 = false := rfl
theorem tr_79 : E.tree 79 = false := rfl
theorem tr_80 : E.tree 80 = false := rfl
theorem tr_81 : E.tree 81 = false := rfl
theorem tr_82 : E.tree 82 = false := rfl
theorem tr_83 : E.tree 83 = false := rfl
theorem tr_86 : E.tree 86 = false := rfl
theorem tr_87 : E.tree 87 = false := rfl
theorem tr_88 : E.tree 88 = false := rfl
theorem tr_89 : E.tree 89 = false := rfl
theorem tr_90 : E.tree 90 = false := rfl
theorem MDS : type_of% (And.intro (And.intro (And.intro (And.intro (And.intro (And.intro (And.intro @md_3 @md_4) (And.intro @md_5 @md_6)) (And.intro (And.intro @md_7 @md_8) (And.intro @md_9 (And.intro @md_10 @md_11)))) (And.intro (And.intro (And.intro @md_12 @md_13) (And.intro @md_14 @md_15)) (And.intro (And.intro @md_16 @md_17) (And.intro @md_18 (And.intro @md_19 @md_20))))) (And.intro (And.intro (And.intro (And.intro @md_21 @md_22) (And.intro @md_23 @md_24)) (And.intro (And.intro @md_25 @md_26) (And.intro @md_27 (And.intro @md_28 @md_29)))) (And.intro (And.intro (And.intro @md_30 @md_31) (And.intro @md_32 (And.intro @md_33 @md_34))) (And.intro (And.intro @md_35 @md_36) (And.intro @md_37 (And.intro @md_38 @md_39)))))) (And.intro (And.intro (And.intro (And.intro (And.intro @md_40 @md_41) (And.intro @md_42 @md_43)) (And.intro (And.intro @md_44 @md_45) (And.intro @md_46 (And.intro @md_47 @md_48)))) (And.intro (And.intro (And.intro @md_49 @md_50) (And.intro @md_52 @md_53)) (And.intro (And.intro @md_54 @md_55) (And.intro @md_56 (And.intro @md_57 @md_58))))) (And.intro (And.intro (And.intro (And.intro @md_60 @md_61) (And.intro @md_62 @md_63)) (And.intro (And.intro @md_64 @md_65) (And.intro @md_70 (And.intro @md_71 @md_72)))) (And.intro (And.intro (And.intro @md_73 @md_79) (And.intro @md_80 (And.intro @md_81 @md_82))) (And.intro (And.intro @md_83 @md_86) (And.intro @md_87 (And.intro @md_88 @md_89))))))) (And.intro (And.intro (And.intro (And.intro (And.intro (And.intro @md_90 @tr_3) (And.intro @tr_4 @tr_5)) (And.intro (And.intro @tr_6 @tr_7) (And.intro @tr_8 (And.intro @tr_9 @tr_10)))) (And.intro (And.intro (And.intro @tr_11 @tr_12) (And.intro @tr_13 @tr_14)) (And.intro (And.intro @tr_15 @tr_16) (And.intro @tr_17 (And.intro @tr_18 @tr_19))))) (And.intro (And.intro (And.intro (And.intro @tr_20 @tr_21) (And.intro @tr_22 @tr_23)) (And.intro (And.intro @tr_24 @tr_25) (And.intro @tr_26 (And.intro @tr_27 @tr_28)))) (And.intro (And.intro (And.intro @tr_29 @tr_30) (And.intro @tr_31 (And.intro @tr_32 @tr_33))) (And.intro (And.intro @tr_34 @tr_35) (And.intro @tr_37 (And.intro @tr_38 @tr_39)))))) (And.intro (And.intro (And.intro (And.intro (And.intro @tr_40 @tr_41) (And.intro @tr_42 @tr_43)) (And.intro (And.intro @tr_44 @tr_45) (And.intro @tr_46 (And.intro @tr_47 @tr_48)))) (And.intro (And.intro (And.intro @tr_49 @tr_50) (And.intro @tr_52 (And.intro @tr_53 @tr_54))) (And.intro (And.intro @tr_55 @tr_56) (And.intro @tr_57 (And.intro @tr_58 @tr_60))))) (And.intro (And.intro (And.intro (And.intro @tr_61 @tr_62) (And.intro @tr_63 @tr_64)) (And.intro (And.intro @tr_65 @tr_70) (And.intro @tr_71 (And.intro @tr_72 @tr_73)))) (And.intro (And.intro (And.intro @tr_79 @tr_80) (And.intro @tr_81 (And.intro @tr_82 @tr_83))) (And.intro (And.intro @tr_86 @tr_87) (And.intro @tr_88 (And.intro @tr_89 @tr_90)))))))) := (And.intro (And.intro (And.intro (And.intro (And.intro (And.intro (And.intro @md_3 @md_4) (And.intro @md_5 @md_6)) (And.intro (And.intro @md_7 @md_8) (And.intro @md_9 (And.intro @md_10 @md_11)))) (And.intro (And.intro (And.intro @md_12 @md_13) (And.intro @md_14 @md_15)) (And.intro (And.intro @md_16 @md_17) (And.intro @md_18 (And.intro @md_19 @md_20))))) (And.intro (And.intro (And.intro (And.intro @md_21 @md_22) (And.intro @md_23 @md_24)) (And.intro (And.intro @md_25 @md_26) (And.intro @md_27 (And.intro @md_28 @md_29)))) (And.intro (And.intro (And.intro @md_30 @md_31) (And.intro @md_32 (And.intro @md_33 @md_34))) (And.intro (And.intro @md_35 @md_36) (And.intro @md_37 (And.intro @md_38 @md_39)))))) (And.intro (And.intro (And.intro (And.intro (And.intro @md_40 @md_41) (And.intro @md_42 @md_43)) (And.intro (And.intro @md_44 @md_45) (And.intro @md_46 (And.intro @md_47 @md_48)))) (And.intro (And.intro (And.intro @md_49 @md_50) (And.intro @md_52 @md_53)) (And.intro (And.intro @md_54 @md_55) (And.intro @md_56 (And.intro @md_57 @md_58))))) (And.intro (And.intro (And.intro (And.intro @md_60 @md_61) (And.intro @md_62 @md_63)) (And.intro (And.intro @md_64 @md_65) (And.intro @md_70 (And.intro @md_71 @md_72)))) (And.intro (And.intro (And.intro @md_73 @md_79) (And.intro @md_80 (And.intro @md_81 @md_82))) (And.intro (And.intro @md_83 @md_86) (And.intro @md_87 (And.intro @md_88 @md_89))))))) (And.intro (And.intro (And.intro (And.intro (And.intro (And.intro @md_90 @tr_3) (And.intro @tr_4 @tr_5)) (And.intro (And.intro @tr_6 @tr_7) (And.intro @tr_8 (And.intro @tr_9 @tr_10)))) (And.intro (And.intro (And.intro @tr_11 @tr_12) (And.intro @tr_13 @tr_14)) (And.intro (And.intro @tr_15 @tr_16) (And.intro @tr_17 (And.intro @tr_18 @tr_19))))) (And.intro (And.intro (And.intro (And.intro @tr_20 @tr_21) (And.intro @tr_22 @tr_23)) (And.intro (And.intro @tr_24 @tr_25) (And.intro @tr_26 (And.intro @tr_27 @tr_28)))) (And.intro (And.intro (And.intro @tr_29 @tr_30) (And.intro @tr_31 (And.intro @tr_32 @tr_33))) (And.intro (And.intro @tr_34 @tr_35) (And.intro @tr_37 (And.intro @tr_38 @tr_39)))))) (And.intro (And.intro (And.intro (And.intro (And.intro @tr_40 @tr_41) (And.intro @tr_42 @tr_43)) (And.intro (And.intro @tr_44 @tr_45) (And.intro @tr_46 (And.intro @tr_47 @tr_48)))) (And.intro (And.intro (And.intro @tr_49 @tr_50) (And.intro @tr_52 (And.intro @tr_53 @tr_54))) (And.intro (And.intro @tr_55 @tr_56) (And.intro @tr_57 (And.intro @tr_58 @tr_60))))) (And.intro (And.intro (And.intro (And.intro @tr_61 @tr_62) (And.intro @tr_63 @tr_64)) (And.intro (And.intro @tr_65 @tr_70) (And.intro @tr_71 (And.intro @tr_72 @tr_73)))) (And.intro (And.intro (And.intro @tr_79 @tr_80) (And.intro @tr_81 (And.intro @tr_82 @tr_83))) (And.intro (And.intro @tr_86 @tr_87) (And.intro @tr_88 (And.intro @tr_89 @tr_90))))))))
theorem TIS : type_of% (And.intro (And.intro (And.intro (And.intro (And.intro @ti2 @ti3) (And.intro @ti4 @ti5)) (And.intro (And.intro @ti9 @st9) (And.intro @ti21 (And.intro @ti23 @is23)))) (And.intro (And.intro (And.intro @ti25 @is25) (And.intro @ti28 (And.intro @sl28 @ti30))) (And.intro (And.intro @is30 @ti42) (And.intro @ti44 (And.intro @is44 @ti51))))) (And.intro (And.intro (And.intro (And.intro @sl51 @ti52) (And.intro @sl52 @ti53)) (And.intro (And.intro @na53 @ar53) (And.intro @ns53 (And.intro @ti61 @na61)))) (And.intro (And.intro (And.intro @ar61 @ns61) (And.intro @ti71 (And.intro @ti76 @ti87))) (And.intro (And.intro @ti100 @is100) (And.intro @ti105 (And.intro @ti108 @is108)))))) := (And.intro (And.intro (And.intro (And.intro (And.intro @ti2 @ti3) (And.intro @ti4 @ti5)) (And.intro (And.intro @ti9 @st9) (And.intro @ti21 (And.intro @ti23 @is23)))) (And.intro (And.intro (And.intro @ti25 @is25) (And.intro @ti28 (And.intro @sl28 @ti30))) (And.intro (And.intro @is30 @ti42) (And.intro @ti44 (And.intro @is44 @ti51))))) (And.intro (And.intro (And.intro (And.intro @sl51 @ti52) (And.intro @sl52 @ti53)) (And.intro (And.intro @na53 @ar53) (And.intro @ns53 (And.intro @ti61 @na61)))) (And.intro (And.intro (And.intro @ar61 @ns61) (And.intro @ti71 (And.intro @ti76 @ti87))) (And.intro (And.intro @ti100 @is100) (And.intro @ti105 (And.intro @ti108 @is108))))))
end Go.Proofs.YtagbfaeddlgckaaDoor.Flat
