/-
The program's data: as lists and trees, and how they are told.
-/
import Derived.Test.YtggkeechdakccaaFlatM5
import Derived.IntWalk
set_option linter.unusedVariables false
set_option linter.unusedSimpArgs false
namespace Go.Proofs.Ytggkeechdakccaa.Flat
def left (n : Int) (m : Nat) : Int := if (m : Int) ≤ n then n - m else -1
def FitL {α : Type} (p : α → Prop) (s : List α) : Prop := s.length ≤ 140737488355328 ∧ ∀ x ∈ s, p x
theorem at_row {α : Type} {s pre r : List α} {x : α} (h : s = pre ++ x :: r) (hs : s.length ≤ 140737488355328) : s[pre.length]? = some x ∧ x ∈ s ∧ ((pre.length : Nat) : Int) < ((s.length : Nat) : Int) ∧ IntKind.i64.wrap ((pre.length : Int) + 1) = ((pre.length + 1 : Nat) : Int) ∧ pre.length < s.length := by
  have hl : s.length = pre.length + (r.length + 1) := by rw [h]; simp
  refine ⟨by rw [h]; simp, by rw [h]; simp, by omega, ?_, by omega⟩
  rw [IntWalk.i64_in _ (by omega)]; omega
def indexBy {α : Type} (p : α → Bool) : Nat → List α → Int
  | _, [] => -1
  | i, x :: r => if p x = true then (i : Int) else indexBy p (i + 1) r
def indexStep {α : Type} (p : α → Bool) (i : Nat) (x : α) (_ : Unit) : Sum Int Unit := if p x = true then .inl (i : Int) else .inr ()
theorem indexLoop {α : Type} (p : α → Bool) : ∀ (s : List α) (i : Nat), loopL (indexStep p) (fun _ => -1) i s () = indexBy p i s
  | [], i => rfl
  | x :: r, i => by
    simp -implicitDefEqProofs only [loopL, indexStep, indexBy]
    cases p x
    · simp -implicitDefEqProofs only [Bool.false_eq_true, if_false]; exact indexLoop p r _
    · simp
theorem indexBy_iff {α : Type} (p : α → Bool) : ∀ (s : List α) (i : Nat), 0 ≤ indexBy p i s ↔ s.any p = true
  | [], i => by simp [indexBy]
  | x :: r, i => by
    by_cases h : p x = true
    · have : indexBy p i (x :: r) = (i : Int) := by simp [indexBy, h]
      rw [this]
      simp [h]
    · have : indexBy p i (x :: r) = indexBy p (i + 1) r := by simp [indexBy, h]
      rw [this, indexBy_iff p r (i + 1)]
      simp [h]
theorem indexBy_nonneg {α : Type} (p : α → Bool) (s : List α) (i : Nat) : decide (0 ≤ indexBy p i s) = s.any p := by
  rw [Bool.eq_iff_iff, decide_eq_true_iff]
  exact indexBy_iff p s i
structure Includes where
  greater : Int
  lesser : Int
noncomputable instance : DecidableEq Includes := fun a b => Classical.propDecidable (a = b)
instance : Inhabited Includes := ⟨⟨default, default⟩⟩
def Includes.enc (fl : Bool) (x : Includes) : AV := .agg [.int .i64 x.greater, .int .i64 x.lesser]
theorem enc_Includes {fl : Bool} {x : Includes} : x.enc fl = .agg [.int .i64 x.greater, .int .i64 x.lesser] := rfl
theorem shut_Includes {fl : Bool} {x : Includes} : (x.enc fl).shut = x.enc fl := by
  rw [enc_Includes]
  rfl
theorem shuts_Includes {fl : Bool} {l : List Includes} : AV.shuts (l.map (Includes.enc fl)) = l.map (Includes.enc fl) := shuts_same (fun _ => shut_Includes) l
theorem tscals_Includes (s : List Includes) : AV.scals (s.map (Includes.enc true)) = true := by
  induction s with
  | nil => rfl
  | cons c r ih => simp -implicitDefEqProofs only [List.map_cons, AV.scals, ih, Bool.and_true]; rfl
structure Fact where
  kind : Int
  subject : Int
  value : Int
  issuer : Int
  at_ : Int
  until_ : Int
noncomputable instance : DecidableEq Fact := fun a b => Classical.propDecidable (a = b)
instance : Inhabited Fact := ⟨⟨default, default, default, default, default, default⟩⟩
def Fact.enc (fl : Bool) (x : Fact) : AV := .agg [.int .i64 x.kind, .int .i64 x.subject, .int .i64 x.value, .int .i64 x.issuer, .int .i64 x.at_, .int .i64 x.until_]
theorem enc_Fact {fl : Bool} {x : Fact} : x.enc fl = .agg [.int .i64 x.kind, .int .i64 x.subject, .int .i64 x.value, .int .i64 x.issuer, .int .i64 x.at_, .int .i64 x.until_] := rfl
theorem shut_Fact {fl : Bool} {x : Fact} : (x.enc fl).shut = x.enc fl := by
  rw [enc_Fact]
  rfl
theorem shuts_Fact {fl : Bool} {l : List Fact} : AV.shuts (l.map (Fact.enc fl)) = l.map (Fact.enc fl) := shuts_same (fun _ => shut_Fact) l
structure Request where
  person : Int
  device : Int
  program : Int
  action : Int
  object : Int
  now : Int
noncomputable instance : DecidableEq Request := fun a b => Classical.propDecidable (a = b)
instance : Inhabited Request := ⟨⟨default, default, default, default, default, default⟩⟩
def Request.enc (fl : Bool) (x : Request) : AV := .agg [.int .i64 x.person, .int .i64 x.device, .int .i64 x.program, .int .i64 x.action, .int .i64 x.object, .int .i64 x.now]
theorem enc_Request {fl : Bool} {x : Request} : x.enc fl = .agg [.int .i64 x.person, .int .i64 x.device, .int .i64 x.program, .int .i64 x.action, .int .i64 x.object, .int .i64 x.now] := rfl
theorem shut_Request {fl : Bool} {x : Request} : (x.enc fl).shut = x.enc fl := by
  rw [enc_Request]
  rfl
theorem shuts_Request {fl : Bool} {l : List Request} : AV.shuts (l.map (Request.enc fl)) = l.map (Request.enc fl) := shuts_same (fun _ => shut_Request) l
structure Cond where
  op : Int
  a : Int
  b : Int
  args : List Cond
noncomputable instance : DecidableEq Cond := fun a b => Classical.propDecidable (a = b)
instance : Inhabited Cond := ⟨⟨0, 0, 0, []⟩⟩
mutual
def Cond.enc (fl : Bool) : Cond → AV
  | ⟨o, a, b, s⟩ => .agg [.int .i64 o, .int .i64 a, .int .i64 b, .sl fl (Cond.encs fl s)]
def Cond.encs (fl : Bool) : List Cond → List AV
  | [] => []
  | c :: r => c.enc fl :: Cond.encs fl r
end
theorem encs_map (fl : Bool) (s : List Cond) : Cond.encs fl s = s.map (Cond.enc fl) := by
  induction s with
  | nil => simp [Cond.encs]
  | cons c r ih => simp [Cond.encs, ih]
theorem enc_Cond {fl : Bool} {x : Cond} : x.enc fl = .agg [.int .i64 x.op, .int .i64 x.a, .int .i64 x.b, .sl fl (x.args.map (Cond.enc fl))] := by
  cases x
  simp -implicitDefEqProofs only [Cond.enc, encs_map]
theorem Cond.induct {P : Cond → Prop} (h : ∀ c : Cond, (∀ d ∈ c.args, P d) → P c) : ∀ c, P c
  | ⟨o, a, b, s⟩ => h _ (go s)
where
  go : ∀ s : List Cond, ∀ d ∈ s, P d
    | [] => fun d hd => by simp at hd
    | c :: r => fun d hd => by
      rcases List.mem_cons.1 hd with e | hd
      · exact e ▸ Cond.induct h c
      · exact go r d hd
mutual
def Cond.w : Cond → Nat
  | ⟨_, _, _, s⟩ => Cond.ws s
def Cond.ws : List Cond → Nat
  | [] => 0
  | c :: r => 1 + c.w + Cond.ws r
end
theorem shut_Cond {fl : Bool} {x : Cond} : (x.enc fl).shut = x.enc fl := by
  rw [enc_Cond]
  rfl
theorem shuts_Cond {fl : Bool} {l : List Cond} : AV.shuts (l.map (Cond.enc fl)) = l.map (Cond.enc fl) := shuts_same (fun _ => shut_Cond) l
mutual
def Cond.tenc : Cond → AV
  | ⟨o, a, b, s⟩ => .agg [.int .i64 o, .int .i64 a, .int .i64 b, .tr 28 4 (Cond.tencs s)]
def Cond.tencs : List Cond → List AV
  | [] => []
  | c :: r => c.tenc :: Cond.tencs r
end
theorem tencs_map (s : List Cond) : Cond.tencs s = s.map Cond.tenc := by
  induction s with
  | nil => simp [Cond.tencs]
  | cons c r ih => simp [Cond.tencs, ih]
theorem tenc_Cond {x : Cond} : x.tenc = .agg [.int .i64 x.op, .int .i64 x.a, .int .i64 x.b, .tr 28 4 (x.args.map Cond.tenc)] := by
  cases x
  simp -implicitDefEqProofs only [Cond.tenc, tencs_map]
theorem tshut_Cond (x : Cond) : x.tenc.shut = x.enc true := by
  induction x using Cond.induct with
  | h x ih =>
    rw [tenc_Cond, enc_Cond]
    have h : ∀ s : List Cond, (∀ c ∈ s, c.tenc.shut = c.enc true) → AV.shuts (s.map Cond.tenc) = s.map (Cond.enc true) := by
      intro s
      induction s with
      | nil => intro _; rfl
      | cons c r ihr => intro hc; simp -implicitDefEqProofs only [List.map_cons, AV.shuts]; rw [hc c (by simp), ihr fun d hd => hc d (by simp [hd])]
    simp -implicitDefEqProofs only [AV.shut, AV.shuts, h x.args ih]
theorem tshuts_Cond {l : List Cond} : AV.shuts (l.map Cond.tenc) = l.map (Cond.enc true) := by
  induction l with
  | nil => rfl
  | cons c r ih => simp -implicitDefEqProofs only [List.map_cons, AV.shuts, ih, tshut_Cond]
theorem SH : type_of% (And.intro (And.intro @shuts_int (And.intro @shuts_bool @shuts_Includes)) (And.intro (And.intro @shuts_Fact @shuts_Request) (And.intro @shuts_Cond @tshuts_Cond))) := (And.intro (And.intro @shuts_int (And.intro @shuts_bool @shuts_Includes)) (And.intro (And.intro @shuts_Fact @shuts_Request) (And.intro @shuts_Cond @tshuts_Cond)))
end Go.Proofs.Ytggkeechdakccaa.Flat
