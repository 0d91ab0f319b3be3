/-
The program's functions, and how they are reckoned with: tables.
-/
import Derived.Test.YtioocjfecgnehaaFlatM5
import Derived.Test.YtioocjfecgnehaaProg
import Derived.KernelRfl
set_option linter.unusedVariables false
set_option linter.unusedSimpArgs false
namespace Go.Proofs.Ytioocjfecgnehaa.Flat
def keepT : Nat → Nat → List Nat
  | 4, 3 => [0, 1, 5, 6]
  | 5, 3 => [0, 3, 4]
  | 6, 3 => [1, 5, 9, 10, 11]
  | 7, 4 => [0, 1, 5]
  | 8, 2 => [0, 1, 5]
  | 9, 2 => [0, 1, 5]
  | _, _ => []
def planT : Nat → Nat → List (Bool × Nat)
  | 7, 6 => [(false, 0), (false, 1), (false, 2), (false, 3), (false, 4), (false, 5), (false, 6), (false, 7), (false, 8)]
  | _, _ => []
def okT : List Nat := [3, 4, 5, 6, 7, 8, 9]
def treeT : List Nat := []
def mdT : Nat → List Mode
  | 8 => [.«mut», .ro]
  | _ => []
noncomputable def E : Env := { P := Go.Proofs.Try.prog, md := mdT, keep := keepT, plan := planT, ok := fun f => okT.contains f, tree := fun f => treeT.contains f }
theorem mixed : E.P.follows .mixedOrders = true := by kernel_rfl
/-- One function's check. -/
def good1 (P : Program) (plan : Nat → Nat → List (Bool × Nat)) (md : Nat → List Mode) (f : Nat) : Bool :=
  match P.funcs[f]? with
  | some fn => (match fn.body with | some c => codeOK (plan f) c && codePin (mutSlots 0 (md f)) c | none => true) && !(fn.name == "runtime.NumGoroutine")
  | none => true
theorem good1_ok {E : Env} {l : List Nat} (ho : ∀ f, E.ok f = true → f ∈ l) (h : l.all (good1 E.P E.plan E.md) = true) : Sound E := by
  intro f hf fn c hfn hc
  have h1 := List.all_eq_true.1 h f (ho f hf)
  simp -implicitDefEqProofs only [good1, hfn, hc, Bool.and_eq_true, Bool.not_eq_true', beq_eq_false_iff_ne, ne_eq] at h1
  exact ⟨h1.1.1, h1.2, h1.1.2⟩
theorem sound : Sound E := good1_ok (l := okT) (fun f hf => by simpa [E] using hf) (by kernel_rfl)
abbrev noExt : Nat → Option (List AV → List (List AV) → Option (AV × List (List AV))) := fun _ => none
theorem hext : ∀ f g, noExt f = some g → ∀ args ios ret fin, g args ios = some (ret, fin) → Enters E.P f ∧ CallOK E.P (E.md f) f args ios ret fin := fun f g hg => by simp [noExt] at hg
abbrev tBool : Nat := 4
theorem tagBool : tagOf E.P 4 = .bool := by kernel_rfl
theorem one_ne : (1 = 0) = False := by simp
theorem ti3 : tiOf E.P 3 = some { tag := Tag.int IntKind.i64, agg := false, size := 1, bytes := 8, zero := some (Value.int IntKind.i64 0), elem := 0, fields := [], eqs := none } := by kernel_rfl
theorem ti4 : tiOf E.P 4 = some { tag := Tag.bool, agg := false, size := 1, bytes := 1, zero := some (Value.bool false), elem := 0, fields := [], eqs := none } := by kernel_rfl
theorem ti22 : tiOf E.P 22 = some { tag := Tag.slice, agg := false, size := 1, bytes := 24, zero := some (Value.slice none 0 0), elem := 3, fields := [], eqs := none } := by kernel_rfl
theorem sl22 : isSliceT E.P 22 = true := by kernel_rfl
theorem plan_7_6 : E.plan 7 6 = [(false, 0), (false, 1), (false, 2), (false, 3), (false, 4), (false, 5), (false, 6), (false, 7), (false, 8)] := rfl
theorem keep_4_3 : E.keep 4 3 = [0, 1, 5, 6] := rfl
theorem keep_5_3 : E.keep 5 3 = [0, 3, 4] := rfl
theorem keep_6_3 : E.keep 6 3 = [1, 5, 9, 10, 11] := rfl
theorem keep_7_4 : E.keep 7 4 = [0, 1, 5] := rfl
theorem keep_8_2 : E.keep 8 2 = [0, 1, 5] := rfl
theorem keep_9_2 : E.keep 9 2 = [0, 1, 5] := rfl
theorem md_3 : E.md 3 = [] := rfl
theorem md_4 : E.md 4 = [] := rfl
theorem md_5 : E.md 5 = [] := rfl
theorem md_6 : E.md 6 = [] := rfl
theorem md_7 : E.md 7 = [] := rfl
theorem md_8 : E.md 8 = [.«mut», .ro] := rfl
theorem md_9 : E.md 9 = [] := rfl
theorem tr_3 : E.tree 3 = false := rfl
theorem tr_4 : E.tree 4 = false := rfl
theorem tr_5 : E.tree 5 = false := rfl
theorem tr_6 : E.tree 6 = false := rfl
theorem tr_7 : E.tree 7 = false := rfl
theorem tr_8 : E.tree 8 = false := rfl
theorem tr_9 : E.tree 9 = false := rfl
theorem MDS : type_of% (And.intro (And.intro (And.intro @md_3 (And.intro @md_4 @md_5)) (And.intro (And.intro @md_6 @md_7) (And.intro @md_8 @md_9))) (And.intro (And.intro @tr_3 (And.intro @tr_4 @tr_5)) (And.intro (And.intro @tr_6 @tr_7) (And.intro @tr_8 @tr_9)))) := (And.intro (And.intro (And.intro @md_3 (And.intro @md_4 @md_5)) (And.intro (And.intro @md_6 @md_7) (And.intro @md_8 @md_9))) (And.intro (And.intro @tr_3 (And.intro @tr_4 @tr_5)) (And.intro (And.intro @tr_6 @tr_7) (And.intro @tr_8 @tr_9))))
theorem TIS : type_of% (And.intro (And.intro @ti3 @ti4) (And.intro @ti22 @sl22)) := (And.intro (And.intro @ti3 @ti4) (And.intro @ti22 @sl22))
end Go.Proofs.Ytioocjfecgnehaa.Flat
