/-
Functions that are handed a variable: how they end.
-/
import Derived.Test.YtigfcbcnfppmcaaGreatEqY
set_option linter.unusedVariables false
set_option linter.unusedSimpArgs false
namespace Go.Proofs.YtigfcbcnfppmcaaGreat.Flat
section
variable {Φ : Phi} {nid n a b t : Nat} {w x y z : AV} {dst : Option Nat} {st : St} {P : Program}
theorem look_nil {α : Type} {i : Nat} : look i ([] : List (Nat × α)) = none := rfl
theorem evCall_io1 : evCall Φ [.io] nid n [.ptr a b] [] dst st = evGive Φ nid n [(.io, .ptr a b)] dst st := rfl
theorem evCall_io2 : evCall Φ [.io, .ro] nid n [.ptr a b, x] [] dst st = evGive Φ nid n [(.io, .ptr a b), (.ro, x)] dst st := rfl
theorem evCall_io3 : evCall Φ [.io, .ro, .ro] nid n [.ptr a b, x, y] [] dst st = evGive Φ nid n [(.io, .ptr a b), (.ro, x), (.ro, y)] dst st := rfl
theorem evCall_io4 : evCall Φ [.io, .ro, .ro, .ro] nid n [.ptr a b, x, y, z] [] dst st = evGive Φ nid n [(.io, .ptr a b), (.ro, x), (.ro, y), (.ro, z)] dst st := rfl
def finish0 (P : Program) (md : List Mode) (t : Nat) (st : St) : Option (AV × List (List AV)) := finish P md [.tmp t] 1 st
def finJ (P : Program) (md : List Mode) (t : Nat) (st : St) (v : AV) : Option (AV × List (List AV)) := if isPtrB v = true then finish0 P md t st else finI st v
theorem finJ_io (m : Mode) (md : List Mode) (hm : mutSlots 0 (m :: md) = []) : finish P (m :: md) [.tmp t] 1 st = finJ P (m :: md) t st (st.get t) := by
  unfold finJ
  split
  · rfl
  · rename_i h
    exact finish_io1 hm (by simpa using h)
theorem finJ_1 : finish P [.io] [.tmp t] 1 st = finJ P [.io] t st (st.get t) := finJ_io _ _ rfl
theorem finJ_2 : finish P [.io, .ro] [.tmp t] 1 st = finJ P [.io, .ro] t st (st.get t) := finJ_io _ _ rfl
theorem finJ_3 : finish P [.io, .ro, .ro] [.tmp t] 1 st = finJ P [.io, .ro, .ro] t st (st.get t) := finJ_io _ _ rfl
theorem finJ_4 : finish P [.io, .ro, .ro, .ro] [.tmp t] 1 st = finJ P [.io, .ro, .ro, .ro] t st (st.get t) := finJ_io _ _ rfl
variable {md : List Mode}
theorem finJ_int {k : IntKind} {i : Int} : finJ P md t st (.int k i) = finI st (.int k i) := rfl
theorem finJ_bool {c : Bool} : finJ P md t st (.bool c) = finI st (.bool c) := rfl
theorem finJ_str {s : ByteArray} : finJ P md t st (.str s) = finI st (.str s) := rfl
theorem finJ_nils : finJ P md t st .nils = finI st .nils := rfl
theorem finJ_agg {cs : List AV} : finJ P md t st (.agg cs) = finI st (.agg cs) := rfl
theorem finJ_own {id e sz : Nat} {fz : Bool} {xs : List AV} : finJ P md t st (.own id fz e sz xs) = finI st (.own id fz e sz xs) := rfl
theorem finJ_sl {fl : Bool} {xs : List AV} : finJ P md t st (.sl fl xs) = finI st (.sl fl xs) := rfl
theorem finJ_tup {cs : List AV} : finJ P md t st (.tup cs) = finI st (.tup cs) := rfl
end
end Go.Proofs.YtigfcbcnfppmcaaGreat.Flat
