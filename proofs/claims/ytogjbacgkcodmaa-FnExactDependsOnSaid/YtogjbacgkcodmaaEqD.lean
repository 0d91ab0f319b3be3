/-
The program's data: as lists and trees, and how they are told.
-/
import Derived.Test.YtogjbacgkcodmaaFlatM5
import Derived.IntWalk
set_option linter.unusedVariables false
set_option linter.unusedSimpArgs false
namespace Go.Proofs.Ytogjbacgkcodmaa.Flat
/-- What is left of a number. -/
def left (n : Int) (m : Nat) : Int := if (m : Int) ≤ n then n - m else -1
theorem left_le {n : Int} {m : Nat} (h : (m : Int) ≤ n) : left n m = n - m := if_pos h
theorem left_gt {n : Int} {m : Nat} (h : n < (m : Int)) : left n m = -1 := if_neg (by omega)
theorem left_lo {n : Int} {m : Nat} (h : -1 ≤ n) : -1 ≤ left n m := by
  unfold left; split <;> omega
theorem left_left {n : Int} {a b : Nat} (h : -1 ≤ n) : left (left n a) b = left n (a + b) := by
  unfold left; split <;> split <;> split <;> omega
/-- A row's weight: its elements, and theirs. -/
def wl {α : Type} (w : α → Nat) : List α → Nat
  | [] => 0
  | x :: r => 1 + w x + wl w r
def FitL {α : Type} (p : α → Prop) (s : List α) : Prop := s.length ≤ 140737488355328 ∧ ∀ x ∈ s, p x
/-- Two rows of one length, as one. -/
theorem zip_at {α β : Type} {s : List α} {t : List β} (hl : s.length = t.length) {pre r : List (α × β)} {x : α × β} (h : s.zip t = pre ++ x :: r) : s[pre.length]? = some x.1 ∧ t[pre.length]? = some x.2 ∧ s = pre.map Prod.fst ++ x.1 :: r.map Prod.fst ∧ t = pre.map Prod.snd ++ x.2 :: r.map Prod.snd := by
  have h1 : (s.zip t).map Prod.fst = s := List.map_fst_zip (by omega)
  have h2 : (s.zip t).map Prod.snd = t := List.map_snd_zip (by omega)
  rw [h] at h1 h2
  refine ⟨?_, ?_, by rw [← h1]; simp, by rw [← h2]; simp⟩
  · rw [← h1]; simp
  · rw [← h2]; simp
/-- What an element's place tells. -/
theorem at_row {α : Type} {s pre r : List α} {x : α} (h : s = pre ++ x :: r) (hs : s.length ≤ 140737488355328) : s[pre.length]? = some x ∧ x ∈ s ∧ ((pre.length : Nat) : Int) < ((s.length : Nat) : Int) ∧ IntKind.i64.wrap ((pre.length : Int) + 1) = ((pre.length + 1 : Nat) : Int) ∧ pre.length < s.length := by
  have hl : s.length = pre.length + (r.length + 1) := by rw [h]; simp
  refine ⟨by rw [h]; simp, by rw [h]; simp, by omega, ?_, by omega⟩
  rw [IntWalk.i64_in _ (by omega)]; omega
def toStep {α : Type} (g : α → AV) (i : Nat) (x : α) (xs : List AV) : Sum (List AV) (List AV) := .inr (xs.set i (g x))
theorem toLoop {α : Type} (g : α → AV) : ∀ (s : List α) (i : Nat) (xs : List AV), xs.length = i + s.length → loopL (toStep g) id i s xs = xs.take i ++ s.map g
  | [], i, xs, h => by simp -implicitDefEqProofs only [loopL, List.map_nil, List.append_nil, id]; rw [List.take_of_length_le (by simp at h; omega)]
  | c :: r, i, xs, h => by
    simp -implicitDefEqProofs only [List.length_cons] at h
    simp -implicitDefEqProofs only [loopL, toStep]
    rw [toLoop g r (i + 1) (xs.set i (g c)) (by simp; omega)]
    rw [List.take_set, List.set_eq_take_append_cons_drop]
    simp -implicitDefEqProofs only [List.length_take, List.map_cons]
    rw [if_pos (by omega), List.take_take, List.drop_take]
    have e1 : min i (i + 1) = i := by omega
    rw [e1, List.append_assoc]
    simp
noncomputable def eqStep {α : Type} [DecidableEq α] (_ : Nat) (p : α × α) (_ : Unit) : Sum Bool Unit := if decide (p.1 = p.2) = true then .inr () else .inl false
theorem eqLoop {α : Type} [DecidableEq α] : ∀ (s t : List α) (i : Nat), s.length = t.length → loopL eqStep (fun _ => true) i (s.zip t) () = decide (s = t)
  | [], [], i, h => by simp [loopL]
  | [], y :: t, i, h => by simp at h
  | x :: s, [], i, h => by simp at h
  | x :: s, y :: t, i, h => by
    simp -implicitDefEqProofs only [List.zip_cons_cons, loopL, eqStep]
    by_cases e : x = y
    · subst e
      simp -implicitDefEqProofs only [decide_true, if_true]
      rw [eqLoop s t _ (by simpa using h)]
      simp
    · simp [e]
structure Fact where
  kind : Int
  subject : Int
  value : Int
  issuer : Int
  at_ : Int
  until_ : Int
noncomputable instance : DecidableEq Fact := fun a b => Classical.propDecidable (a = b)
instance : Inhabited Fact := ⟨⟨default, default, default, default, default, default⟩⟩
def Fact.enc (fl : Bool) (x : Fact) : AV := .agg [.int .i64 x.kind, .int .i64 x.subject, .int .i64 x.value, .int .i64 x.issuer, .int .i64 x.at_, .int .i64 x.until_]
theorem enc_Fact {fl : Bool} {x : Fact} : x.enc fl = .agg [.int .i64 x.kind, .int .i64 x.subject, .int .i64 x.value, .int .i64 x.issuer, .int .i64 x.at_, .int .i64 x.until_] := rfl
theorem shut_Fact {fl : Bool} {x : Fact} : (x.enc fl).shut = x.enc fl := by
  rw [enc_Fact]
  rfl
theorem shuts_Fact {fl : Bool} {l : List Fact} : AV.shuts (l.map (Fact.enc fl)) = l.map (Fact.enc fl) := shuts_same (fun _ => shut_Fact) l
structure Choice where
  atom : Int
  low : Int
  high : Int
noncomputable instance : DecidableEq Choice := fun a b => Classical.propDecidable (a = b)
instance : Inhabited Choice := ⟨⟨default, default, default⟩⟩
def Choice.enc (fl : Bool) (x : Choice) : AV := .agg [.int .i64 x.atom, .int .i64 x.low, .int .i64 x.high]
theorem enc_Choice {fl : Bool} {x : Choice} : x.enc fl = .agg [.int .i64 x.atom, .int .i64 x.low, .int .i64 x.high] := rfl
theorem shut_Choice {fl : Bool} {x : Choice} : (x.enc fl).shut = x.enc fl := by
  rw [enc_Choice]
  rfl
theorem shuts_Choice {fl : Bool} {l : List Choice} : AV.shuts (l.map (Choice.enc fl)) = l.map (Choice.enc fl) := shuts_same (fun _ => shut_Choice) l
structure Cond where
  op : Int
  a : Int
  b : Int
  args : List Cond
noncomputable instance : DecidableEq Cond := fun a b => Classical.propDecidable (a = b)
instance : Inhabited Cond := ⟨⟨0, 0, 0, []⟩⟩
mutual
def Cond.enc (fl : Bool) : Cond → AV
  | ⟨o, a, b, s⟩ => .agg [.int .i64 o, .int .i64 a, .int .i64 b, .sl fl (Cond.encs fl s)]
def Cond.encs (fl : Bool) : List Cond → List AV
  | [] => []
  | c :: r => c.enc fl :: Cond.encs fl r
end
theorem encs_map (fl : Bool) (s : List Cond) : Cond.encs fl s = s.map (Cond.enc fl) := by
  induction s with
  | nil => simp [Cond.encs]
  | cons c r ih => simp [Cond.encs, ih]
theorem enc_Cond {fl : Bool} {x : Cond} : x.enc fl = .agg [.int .i64 x.op, .int .i64 x.a, .int .i64 x.b, .sl fl (x.args.map (Cond.enc fl))] := by
  cases x
  simp -implicitDefEqProofs only [Cond.enc, encs_map]
mutual
/-- How many nodes are below it. -/
def Cond.w : Cond → Nat
  | ⟨_, _, _, s⟩ => Cond.ws s
def Cond.ws : List Cond → Nat
  | [] => 0
  | c :: r => 1 + c.w + Cond.ws r
end
mutual
def Cond.fits : Cond → Prop
  | ⟨_, _, _, s⟩ => s.length ≤ 140737488355328 ∧ Cond.fitss s
def Cond.fitss : List Cond → Prop
  | [] => True
  | c :: r => c.fits ∧ Cond.fitss r
end
theorem fitss_all (s : List Cond) : Cond.fitss s ↔ ∀ x ∈ s, x.fits := by
  induction s with
  | nil => simp [Cond.fitss]
  | cons c r ih => simp [Cond.fitss, ih]
theorem Cond.fits_eq (c : Cond) : c.fits ↔ FitL Cond.fits c.args := by
  cases c
  simp -implicitDefEqProofs only [Cond.fits, FitL, fitss_all]
theorem shut_Cond {fl : Bool} {x : Cond} : (x.enc fl).shut = x.enc fl := by
  rw [enc_Cond]
  rfl
theorem shuts_Cond {fl : Bool} {l : List Cond} : AV.shuts (l.map (Cond.enc fl)) = l.map (Cond.enc fl) := shuts_same (fun _ => shut_Cond) l
def Cond.encO (x : Cond) : AV := .agg [.int .i64 x.op, .int .i64 x.a, .int .i64 x.b, .own 0 false 41 4 (x.args.map (Cond.enc true))]
structure Rule where
  effect : Int
  action : Int
  object : Int
  cond : Cond
noncomputable instance : DecidableEq Rule := fun a b => Classical.propDecidable (a = b)
instance : Inhabited Rule := ⟨⟨default, default, default, default⟩⟩
def Rule.enc (fl : Bool) (x : Rule) : AV := .agg [.int .i64 x.effect, .int .i64 x.action, .int .i64 x.object, .int .i64 x.cond.op, .int .i64 x.cond.a, .int .i64 x.cond.b, .sl fl (x.cond.args.map (Cond.enc fl))]
theorem enc_Rule {fl : Bool} {x : Rule} : x.enc fl = .agg [.int .i64 x.effect, .int .i64 x.action, .int .i64 x.object, .int .i64 x.cond.op, .int .i64 x.cond.a, .int .i64 x.cond.b, .sl fl (x.cond.args.map (Cond.enc fl))] := rfl
def Rule.w (x : Rule) : Nat := x.cond.w
def Rule.fits (x : Rule) : Prop := x.cond.fits
theorem shut_Rule {fl : Bool} {x : Rule} : (x.enc fl).shut = x.enc fl := by
  rw [enc_Rule]
  rfl
theorem shuts_Rule {fl : Bool} {l : List Rule} : AV.shuts (l.map (Rule.enc fl)) = l.map (Rule.enc fl) := shuts_same (fun _ => shut_Rule) l
def Rule.encO (x : Rule) : AV := .agg [.int .i64 x.effect, .int .i64 x.action, .int .i64 x.object, .int .i64 x.cond.op, .int .i64 x.cond.a, .int .i64 x.cond.b, .own 0 false 41 4 (x.cond.args.map (Cond.enc true))]
structure Diagram where
  atoms : Int
  nodes : List Choice
  root : Int
noncomputable instance : DecidableEq Diagram := fun a b => Classical.propDecidable (a = b)
instance : Inhabited Diagram := ⟨⟨default, default, default⟩⟩
def Diagram.enc (fl : Bool) (x : Diagram) : AV := .agg [.int .i64 x.atoms, .sl fl (x.nodes.map (Choice.enc fl)), .int .i64 x.root]
theorem enc_Diagram {fl : Bool} {x : Diagram} : x.enc fl = .agg [.int .i64 x.atoms, .sl fl (x.nodes.map (Choice.enc fl)), .int .i64 x.root] := rfl
def Diagram.w (x : Diagram) : Nat := x.nodes.length
def Diagram.fits (x : Diagram) : Prop := FitL (fun _ => True) x.nodes
theorem shut_Diagram {fl : Bool} {x : Diagram} : (x.enc fl).shut = x.enc fl := by
  rw [enc_Diagram]
  rfl
theorem shuts_Diagram {fl : Bool} {l : List Diagram} : AV.shuts (l.map (Diagram.enc fl)) = l.map (Diagram.enc fl) := shuts_same (fun _ => shut_Diagram) l
def Diagram.encO (x : Diagram) : AV := .agg [.int .i64 x.atoms, .own 0 false 92 3 (x.nodes.map (Choice.enc true)), .int .i64 x.root]
structure Compiled where
  atoms : List Cond
  diagram : Diagram
  version : Int
noncomputable instance : DecidableEq Compiled := fun a b => Classical.propDecidable (a = b)
instance : Inhabited Compiled := ⟨⟨default, default, default⟩⟩
def Compiled.enc (fl : Bool) (x : Compiled) : AV := .agg [.sl fl (x.atoms.map (Cond.enc fl)), .int .i64 x.diagram.atoms, .sl fl (x.diagram.nodes.map (Choice.enc fl)), .int .i64 x.diagram.root, .int .i64 x.version]
theorem enc_Compiled {fl : Bool} {x : Compiled} : x.enc fl = .agg [.sl fl (x.atoms.map (Cond.enc fl)), .int .i64 x.diagram.atoms, .sl fl (x.diagram.nodes.map (Choice.enc fl)), .int .i64 x.diagram.root, .int .i64 x.version] := rfl
def Compiled.w (x : Compiled) : Nat := wl Cond.w x.atoms + x.diagram.w
def Compiled.fits (x : Compiled) : Prop := FitL Cond.fits x.atoms ∧ x.diagram.fits
theorem shut_Compiled {fl : Bool} {x : Compiled} : (x.enc fl).shut = x.enc fl := by
  rw [enc_Compiled]
  rfl
theorem shuts_Compiled {fl : Bool} {l : List Compiled} : AV.shuts (l.map (Compiled.enc fl)) = l.map (Compiled.enc fl) := shuts_same (fun _ => shut_Compiled) l
def Compiled.encO (x : Compiled) : AV := .agg [.own 0 false 41 4 (x.atoms.map (Cond.enc true)), .int .i64 x.diagram.atoms, .own 1 false 92 3 (x.diagram.nodes.map (Choice.enc true)), .int .i64 x.diagram.root, .int .i64 x.version]
theorem SH : type_of% (And.intro (And.intro (And.intro @shuts_int @shuts_bool) (And.intro @shuts_Fact @shuts_Choice)) (And.intro (And.intro @shuts_Cond @shuts_Rule) (And.intro @shuts_Diagram @shuts_Compiled))) := (And.intro (And.intro (And.intro @shuts_int @shuts_bool) (And.intro @shuts_Fact @shuts_Choice)) (And.intro (And.intro @shuts_Cond @shuts_Rule) (And.intro @shuts_Diagram @shuts_Compiled)))
end Go.Proofs.Ytogjbacgkcodmaa.Flat
