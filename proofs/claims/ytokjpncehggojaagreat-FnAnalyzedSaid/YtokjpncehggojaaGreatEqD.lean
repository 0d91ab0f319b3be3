/-
The program's data: as lists and trees, and how they are told.
-/
import Derived.Test.YtokjpncehggojaaGreatFlatM5
import Derived.IntWalk
set_option linter.unusedVariables false
set_option linter.unusedSimpArgs false
namespace Go.Proofs.YtokjpncehggojaaGreat.Flat
def left (n : Int) (m : Nat) : Int := if (m : Int) ≤ n then n - m else -1
theorem left_lo {n : Int} {m : Nat} (h : -1 ≤ n) : -1 ≤ left n m := by
  unfold left; split <;> omega
theorem left_hi {n b : Int} {m : Nat} (h : n ≤ b) (hb : 0 ≤ b) : left n m ≤ b := by
  unfold left; split <;> omega
theorem left_left {n : Int} {a b : Nat} (h : -1 ≤ n) : left (left n a) b = left n (a + b) := by
  unfold left; split <;> split <;> split <;> omega
theorem left_zero {n : Int} (h : -1 ≤ n) : left n 0 = n := by unfold left; split <;> omega
def wl {α : Type} (w : α → Nat) : List α → Nat
  | [] => 0
  | x :: r => 1 + w x + wl w r
theorem wl_mem {α : Type} {w : α → Nat} {s : List α} {x : α} (h : x ∈ s) : w x + 1 ≤ wl w s := by
  induction s with
  | nil => simp at h
  | cons d r ih =>
    simp -implicitDefEqProofs only [wl]
    rcases List.mem_cons.1 h with rfl | h
    · omega
    · have := ih h; omega
theorem wl_length {α : Type} (w : α → Nat) (s : List α) : s.length ≤ wl w s := by
  induction s with
  | nil => simp [wl]
  | cons c r ih => simp -implicitDefEqProofs only [wl, List.length_cons]; omega
theorem wl_append {α : Type} (w : α → Nat) (s t : List α) : wl w (s ++ t) = wl w s + wl w t := by
  induction s with
  | nil => simp [wl]
  | cons c r ih => simp -implicitDefEqProofs only [List.cons_append, wl, ih]; omega
def FitL {α : Type} (p : α → Prop) (s : List α) : Prop := s.length ≤ 140737488355328 ∧ ∀ x ∈ s, p x
theorem zip_at {α β : Type} {s : List α} {t : List β} (hl : s.length = t.length) {pre r : List (α × β)} {x : α × β} (h : s.zip t = pre ++ x :: r) : s[pre.length]? = some x.1 ∧ t[pre.length]? = some x.2 ∧ s = pre.map Prod.fst ++ x.1 :: r.map Prod.fst ∧ t = pre.map Prod.snd ++ x.2 :: r.map Prod.snd := by
  have h1 : (s.zip t).map Prod.fst = s := List.map_fst_zip (by omega)
  have h2 : (s.zip t).map Prod.snd = t := List.map_snd_zip (by omega)
  rw [h] at h1 h2
  refine ⟨?_, ?_, by rw [← h1]; simp, by rw [← h2]; simp⟩
  · rw [← h1]; simp
  · rw [← h2]; simp
theorem at_row {α : Type} {s pre r : List α} {x : α} (h : s = pre ++ x :: r) (hs : s.length ≤ 140737488355328) : s[pre.length]? = some x ∧ x ∈ s ∧ ((pre.length : Nat) : Int) < ((s.length : Nat) : Int) ∧ IntKind.i64.wrap ((pre.length : Int) + 1) = ((pre.length + 1 : Nat) : Int) ∧ pre.length < s.length := by
  have hl : s.length = pre.length + (r.length + 1) := by rw [h]; simp
  refine ⟨by rw [h]; simp, by rw [h]; simp, by omega, ?_, by omega⟩
  rw [IntWalk.i64_in _ (by omega)]; omega
theorem take_row {α : Type} {s pre r : List α} {x : α} (h : s = pre ++ x :: r) : s.take pre.length = pre ∧ s.take (pre.length + 1) = pre ++ [x] := by
  subst h
  refine ⟨by simp, ?_⟩
  rw [List.take_append, List.take_of_length_le (by omega)]
  simp
noncomputable def eqStep {α : Type} [DecidableEq α] (_ : Nat) (p : α × α) (_ : Unit) : Sum Bool Unit := if decide (p.1 = p.2) = true then .inr () else .inl false
theorem eqLoop {α : Type} [DecidableEq α] : ∀ (s t : List α) (i : Nat), s.length = t.length → loopL eqStep (fun _ => true) i (s.zip t) () = decide (s = t)
  | [], [], i, h => by simp [loopL]
  | [], y :: t, i, h => by simp at h
  | x :: s, [], i, h => by simp at h
  | x :: s, y :: t, i, h => by
    simp -implicitDefEqProofs only [List.zip_cons_cons, loopL, eqStep]
    by_cases e : x = y
    · subst e
      simp -implicitDefEqProofs only [decide_true, if_true]
      rw [eqLoop s t _ (by simpa using h)]
      simp
    · simp [e]
def eqBy {α : Type} (p : α → α → Bool) (s t : List α) : Bool := decide (s.length = t.length) && (s.zip t).all (fun q => p q.1 q.2)
def eqByStep {α : Type} (p : α → α → Bool) (_ : Nat) (q : α × α) (_ : Unit) : Sum Bool Unit := if p q.1 q.2 = true then .inr () else .inl false
theorem eqByLoop {α : Type} (p : α → α → Bool) (s t : List α) (i : Nat) (h : s.length = t.length) : loopL (eqByStep p) (fun _ => true) i (s.zip t) () = eqBy p s t := by
  simp -implicitDefEqProofs only [eqBy, h, decide_true, Bool.true_and]
  generalize s.zip t = z
  induction z generalizing i with
  | nil => simp [loopL]
  | cons q z ih =>
    simp -implicitDefEqProofs only [loopL, eqByStep, List.all_cons]
    cases p q.1 q.2
    · simp
    · simp -implicitDefEqProofs only [if_true, Bool.true_and]; exact ih _
theorem eqBy_eq {α : Type} [DecidableEq α] (s t : List α) : eqBy (fun x y => decide (x = y)) s t = decide (s = t) := by
  by_cases h : s.length = t.length
  · rw [← eqByLoop _ s t 0 h, ← eqLoop s t 0 h]
    rfl
  · have : s ≠ t := fun e => h (by rw [e])
    simp [eqBy, h, this]
def indexBy {α : Type} (p : α → Bool) : Nat → List α → Int
  | _, [] => -1
  | i, x :: r => if p x = true then (i : Int) else indexBy p (i + 1) r
def indexStep {α : Type} (p : α → Bool) (i : Nat) (x : α) (_ : Unit) : Sum Int Unit := if p x = true then .inl (i : Int) else .inr ()
theorem indexLoop {α : Type} (p : α → Bool) : ∀ (s : List α) (i : Nat), loopL (indexStep p) (fun _ => -1) i s () = indexBy p i s
  | [], i => rfl
  | x :: r, i => by
    simp -implicitDefEqProofs only [loopL, indexStep, indexBy]
    cases p x
    · simp -implicitDefEqProofs only [Bool.false_eq_true, if_false]; exact indexLoop p r _
    · simp
theorem indexBy_iff {α : Type} (p : α → Bool) : ∀ (s : List α) (i : Nat), 0 ≤ indexBy p i s ↔ s.any p = true
  | [], i => by simp [indexBy]
  | x :: r, i => by
    by_cases h : p x = true
    · have : indexBy p i (x :: r) = (i : Int) := by simp [indexBy, h]
      rw [this]
      simp [h]
    · have : indexBy p i (x :: r) = indexBy p (i + 1) r := by simp [indexBy, h]
      rw [this, indexBy_iff p r (i + 1)]
      simp [h]
theorem indexBy_nonneg {α : Type} (p : α → Bool) (s : List α) (i : Nat) : decide (0 ≤ indexBy p i s) = s.any p := by
  rw [Bool.eq_iff_iff, decide_eq_true_iff]
  exact indexBy_iff p s i
def allStep {α : Type} (p : α → Bool) (_ : Nat) (x : α) (_ : Unit) : Sum Bool Unit := if p x = true then .inr () else .inl false
theorem allLoop2 {α : Type} (p : α → Bool) (d : Bool) : ∀ (s : List α) (i : Nat), loopL (allStep p) (fun _ => d) i s () = (s.all p && d)
  | [], i => by simp [loopL]
  | x :: r, i => by
    simp -implicitDefEqProofs only [loopL, allStep, List.all_cons]
    cases p x
    · simp
    · simp -implicitDefEqProofs only [if_true, Bool.true_and]; exact allLoop2 p d r _
theorem allLoop {α : Type} (p : α → Bool) (s : List α) (i : Nat) : loopL (allStep p) (fun _ => true) i s () = s.all p := by rw [allLoop2, Bool.and_true]
structure Includes where
  greater : Int
  lesser : Int
noncomputable instance : DecidableEq Includes := fun a b => Classical.propDecidable (a = b)
instance : Inhabited Includes := ⟨⟨default, default⟩⟩
def Includes.enc (fl : Bool) (x : Includes) : AV := .agg [.int .i64 x.greater, .int .i64 x.lesser]
theorem enc_Includes {fl : Bool} {x : Includes} : x.enc fl = .agg [.int .i64 x.greater, .int .i64 x.lesser] := rfl
theorem shut_Includes {fl : Bool} {x : Includes} : (x.enc fl).shut = x.enc fl := by
  rw [enc_Includes]
  rfl
theorem shuts_Includes {fl : Bool} {l : List Includes} : AV.shuts (l.map (Includes.enc fl)) = l.map (Includes.enc fl) := shuts_same (fun _ => shut_Includes) l
theorem tscals_Includes (s : List Includes) : AV.scals (s.map (Includes.enc true)) = true := by
  induction s with
  | nil => rfl
  | cons c r ih => simp -implicitDefEqProofs only [List.map_cons, AV.scals, ih, Bool.and_true]; rfl
structure Fact where
  kind : Int
  subject : Int
  value : Int
  issuer : Int
  at_ : Int
  until_ : Int
noncomputable instance : DecidableEq Fact := fun a b => Classical.propDecidable (a = b)
instance : Inhabited Fact := ⟨⟨default, default, default, default, default, default⟩⟩
def Fact.enc (fl : Bool) (x : Fact) : AV := .agg [.int .i64 x.kind, .int .i64 x.subject, .int .i64 x.value, .int .i64 x.issuer, .int .i64 x.at_, .int .i64 x.until_]
theorem enc_Fact {fl : Bool} {x : Fact} : x.enc fl = .agg [.int .i64 x.kind, .int .i64 x.subject, .int .i64 x.value, .int .i64 x.issuer, .int .i64 x.at_, .int .i64 x.until_] := rfl
theorem shut_Fact {fl : Bool} {x : Fact} : (x.enc fl).shut = x.enc fl := by
  rw [enc_Fact]
  rfl
theorem shuts_Fact {fl : Bool} {l : List Fact} : AV.shuts (l.map (Fact.enc fl)) = l.map (Fact.enc fl) := shuts_same (fun _ => shut_Fact) l
structure Request where
  person : Int
  device : Int
  program : Int
  action : Int
  object : Int
  now : Int
noncomputable instance : DecidableEq Request := fun a b => Classical.propDecidable (a = b)
instance : Inhabited Request := ⟨⟨default, default, default, default, default, default⟩⟩
def Request.enc (fl : Bool) (x : Request) : AV := .agg [.int .i64 x.person, .int .i64 x.device, .int .i64 x.program, .int .i64 x.action, .int .i64 x.object, .int .i64 x.now]
theorem enc_Request {fl : Bool} {x : Request} : x.enc fl = .agg [.int .i64 x.person, .int .i64 x.device, .int .i64 x.program, .int .i64 x.action, .int .i64 x.object, .int .i64 x.now] := rfl
theorem shut_Request {fl : Bool} {x : Request} : (x.enc fl).shut = x.enc fl := by
  rw [enc_Request]
  rfl
theorem shuts_Request {fl : Bool} {l : List Request} : AV.shuts (l.map (Request.enc fl)) = l.map (Request.enc fl) := shuts_same (fun _ => shut_Request) l
structure Choice where
  atom : Int
  low : Int
  high : Int
noncomputable instance : DecidableEq Choice := fun a b => Classical.propDecidable (a = b)
instance : Inhabited Choice := ⟨⟨default, default, default⟩⟩
def Choice.enc (fl : Bool) (x : Choice) : AV := .agg [.int .i64 x.atom, .int .i64 x.low, .int .i64 x.high]
theorem enc_Choice {fl : Bool} {x : Choice} : x.enc fl = .agg [.int .i64 x.atom, .int .i64 x.low, .int .i64 x.high] := rfl
theorem shut_Choice {fl : Bool} {x : Choice} : (x.enc fl).shut = x.enc fl := by
  rw [enc_Choice]
  rfl
theorem shuts_Choice {fl : Bool} {l : List Choice} : AV.shuts (l.map (Choice.enc fl)) = l.map (Choice.enc fl) := shuts_same (fun _ => shut_Choice) l
theorem tscals_Choice (s : List Choice) : AV.scals (s.map (Choice.enc true)) = true := by
  induction s with
  | nil => rfl
  | cons c r ih => simp -implicitDefEqProofs only [List.map_cons, AV.scals, ih, Bool.and_true]; rfl
structure Conflict where
  permit : Int
  deny : Int
noncomputable instance : DecidableEq Conflict := fun a b => Classical.propDecidable (a = b)
instance : Inhabited Conflict := ⟨⟨default, default⟩⟩
def Conflict.enc (fl : Bool) (x : Conflict) : AV := .agg [.int .i64 x.permit, .int .i64 x.deny]
theorem enc_Conflict {fl : Bool} {x : Conflict} : x.enc fl = .agg [.int .i64 x.permit, .int .i64 x.deny] := rfl
theorem shut_Conflict {fl : Bool} {x : Conflict} : (x.enc fl).shut = x.enc fl := by
  rw [enc_Conflict]
  rfl
theorem shuts_Conflict {fl : Bool} {l : List Conflict} : AV.shuts (l.map (Conflict.enc fl)) = l.map (Conflict.enc fl) := shuts_same (fun _ => shut_Conflict) l
theorem tscals_Conflict (s : List Conflict) : AV.scals (s.map (Conflict.enc true)) = true := by
  induction s with
  | nil => rfl
  | cons c r ih => simp -implicitDefEqProofs only [List.map_cons, AV.scals, ih, Bool.and_true]; rfl
structure Cond where
  op : Int
  a : Int
  b : Int
  args : List Cond
noncomputable instance : DecidableEq Cond := fun a b => Classical.propDecidable (a = b)
instance : Inhabited Cond := ⟨⟨0, 0, 0, []⟩⟩
mutual
def Cond.enc (fl : Bool) : Cond → AV
  | ⟨o, a, b, s⟩ => .agg [.int .i64 o, .int .i64 a, .int .i64 b, .sl fl (Cond.encs fl s)]
def Cond.encs (fl : Bool) : List Cond → List AV
  | [] => []
  | c :: r => c.enc fl :: Cond.encs fl r
end
theorem encs_map (fl : Bool) (s : List Cond) : Cond.encs fl s = s.map (Cond.enc fl) := by
  induction s with
  | nil => simp [Cond.encs]
  | cons c r ih => simp [Cond.encs, ih]
theorem enc_Cond {fl : Bool} {x : Cond} : x.enc fl = .agg [.int .i64 x.op, .int .i64 x.a, .int .i64 x.b, .sl fl (x.args.map (Cond.enc fl))] := by
  cases x
  simp -implicitDefEqProofs only [Cond.enc, encs_map]
theorem Cond.induct {P : Cond → Prop} (h : ∀ c : Cond, (∀ d ∈ c.args, P d) → P c) : ∀ c, P c
  | ⟨o, a, b, s⟩ => h _ (go s)
where
  go : ∀ s : List Cond, ∀ d ∈ s, P d
    | [] => fun d hd => by simp at hd
    | c :: r => fun d hd => by
      rcases List.mem_cons.1 hd with e | hd
      · exact e ▸ Cond.induct h c
      · exact go r d hd
mutual
def Cond.w : Cond → Nat
  | ⟨_, _, _, s⟩ => Cond.ws s
def Cond.ws : List Cond → Nat
  | [] => 0
  | c :: r => 1 + c.w + Cond.ws r
end
theorem ws_wl (s : List Cond) : Cond.ws s = wl Cond.w s := by
  induction s with
  | nil => simp [Cond.ws, wl]
  | cons c r ih => simp [Cond.ws, wl, ih]
theorem Cond.w_eq (c : Cond) : c.w = wl Cond.w c.args := by
  cases c
  simp -implicitDefEqProofs only [Cond.w, ws_wl]
theorem shut_Cond {fl : Bool} {x : Cond} : (x.enc fl).shut = x.enc fl := by
  rw [enc_Cond]
  rfl
theorem shuts_Cond {fl : Bool} {l : List Cond} : AV.shuts (l.map (Cond.enc fl)) = l.map (Cond.enc fl) := shuts_same (fun _ => shut_Cond) l
mutual
def Cond.tenc : Cond → AV
  | ⟨o, a, b, s⟩ => .agg [.int .i64 o, .int .i64 a, .int .i64 b, .tr 40 4 (Cond.tencs s)]
def Cond.tencs : List Cond → List AV
  | [] => []
  | c :: r => c.tenc :: Cond.tencs r
end
theorem tencs_map (s : List Cond) : Cond.tencs s = s.map Cond.tenc := by
  induction s with
  | nil => simp [Cond.tencs]
  | cons c r ih => simp [Cond.tencs, ih]
theorem tenc_Cond {x : Cond} : x.tenc = .agg [.int .i64 x.op, .int .i64 x.a, .int .i64 x.b, .tr 40 4 (x.args.map Cond.tenc)] := by
  cases x
  simp -implicitDefEqProofs only [Cond.tenc, tencs_map]
theorem tshut_Cond (x : Cond) : x.tenc.shut = x.enc true := by
  induction x using Cond.induct with
  | h x ih =>
    rw [tenc_Cond, enc_Cond]
    have h : ∀ s : List Cond, (∀ c ∈ s, c.tenc.shut = c.enc true) → AV.shuts (s.map Cond.tenc) = s.map (Cond.enc true) := by
      intro s
      induction s with
      | nil => intro _; rfl
      | cons c r ihr => intro hc; simp -implicitDefEqProofs only [List.map_cons, AV.shuts]; rw [hc c (by simp), ihr fun d hd => hc d (by simp [hd])]
    simp -implicitDefEqProofs only [AV.shut, AV.shuts, h x.args ih]
theorem tshuts_Cond {l : List Cond} : AV.shuts (l.map Cond.tenc) = l.map (Cond.enc true) := by
  induction l with
  | nil => rfl
  | cons c r ih => simp -implicitDefEqProofs only [List.map_cons, AV.shuts, ih, tshut_Cond]
structure Rule where
  effect : Int
  action : Int
  object : Int
  cond : Cond
noncomputable instance : DecidableEq Rule := fun a b => Classical.propDecidable (a = b)
instance : Inhabited Rule := ⟨⟨default, default, default, default⟩⟩
def Rule.enc (fl : Bool) (x : Rule) : AV := .agg [.int .i64 x.effect, .int .i64 x.action, .int .i64 x.object, .int .i64 x.cond.op, .int .i64 x.cond.a, .int .i64 x.cond.b, .sl fl (x.cond.args.map (Cond.enc fl))]
theorem enc_Rule {fl : Bool} {x : Rule} : x.enc fl = .agg [.int .i64 x.effect, .int .i64 x.action, .int .i64 x.object, .int .i64 x.cond.op, .int .i64 x.cond.a, .int .i64 x.cond.b, .sl fl (x.cond.args.map (Cond.enc fl))] := rfl
def Rule.w (x : Rule) : Nat := x.cond.w
theorem shut_Rule {fl : Bool} {x : Rule} : (x.enc fl).shut = x.enc fl := by
  rw [enc_Rule]
  rfl
theorem shuts_Rule {fl : Bool} {l : List Rule} : AV.shuts (l.map (Rule.enc fl)) = l.map (Rule.enc fl) := shuts_same (fun _ => shut_Rule) l
def Rule.tenc (x : Rule) : AV := .agg [.int .i64 x.effect, .int .i64 x.action, .int .i64 x.object, .int .i64 x.cond.op, .int .i64 x.cond.a, .int .i64 x.cond.b, .tr 40 4 (x.cond.args.map Cond.tenc)]
theorem tenc_Rule {x : Rule} : x.tenc = .agg [.int .i64 x.effect, .int .i64 x.action, .int .i64 x.object, .int .i64 x.cond.op, .int .i64 x.cond.a, .int .i64 x.cond.b, .tr 40 4 (x.cond.args.map Cond.tenc)] := rfl
theorem tshut_Rule (x : Rule) : x.tenc.shut = x.enc true := by
  simp -implicitDefEqProofs only [tenc_Rule, enc_Rule, AV.shut, AV.shuts, tshuts_Cond]
theorem tshuts_Rule {l : List Rule} : AV.shuts (l.map Rule.tenc) = l.map (Rule.enc true) := by
  induction l with
  | nil => rfl
  | cons c r ih => simp -implicitDefEqProofs only [List.map_cons, AV.shuts, ih, tshut_Rule]
structure Policy where
  version : Int
  rules : List Rule
noncomputable instance : DecidableEq Policy := fun a b => Classical.propDecidable (a = b)
instance : Inhabited Policy := ⟨⟨default, default⟩⟩
def Policy.enc (fl : Bool) (x : Policy) : AV := .agg [.int .i64 x.version, .sl fl (x.rules.map (Rule.enc fl))]
theorem enc_Policy {fl : Bool} {x : Policy} : x.enc fl = .agg [.int .i64 x.version, .sl fl (x.rules.map (Rule.enc fl))] := rfl
def Policy.w (x : Policy) : Nat := wl Rule.w x.rules
theorem shut_Policy {fl : Bool} {x : Policy} : (x.enc fl).shut = x.enc fl := by
  rw [enc_Policy]
  rfl
theorem shuts_Policy {fl : Bool} {l : List Policy} : AV.shuts (l.map (Policy.enc fl)) = l.map (Policy.enc fl) := shuts_same (fun _ => shut_Policy) l
def Policy.tenc (x : Policy) : AV := .agg [.int .i64 x.version, .tr 42 7 (x.rules.map Rule.tenc)]
theorem tenc_Policy {x : Policy} : x.tenc = .agg [.int .i64 x.version, .tr 42 7 (x.rules.map Rule.tenc)] := rfl
theorem tshut_Policy (x : Policy) : x.tenc.shut = x.enc true := by
  simp -implicitDefEqProofs only [tenc_Policy, enc_Policy, AV.shut, AV.shuts, tshuts_Rule]
theorem tshuts_Policy {l : List Policy} : AV.shuts (l.map Policy.tenc) = l.map (Policy.enc true) := by
  induction l with
  | nil => rfl
  | cons c r ih => simp -implicitDefEqProofs only [List.map_cons, AV.shuts, ih, tshut_Policy]
structure Diagram where
  atoms : Int
  nodes : List Choice
  root : Int
noncomputable instance : DecidableEq Diagram := fun a b => Classical.propDecidable (a = b)
instance : Inhabited Diagram := ⟨⟨default, default, default⟩⟩
def Diagram.enc (fl : Bool) (x : Diagram) : AV := .agg [.int .i64 x.atoms, .sl fl (x.nodes.map (Choice.enc fl)), .int .i64 x.root]
theorem enc_Diagram {fl : Bool} {x : Diagram} : x.enc fl = .agg [.int .i64 x.atoms, .sl fl (x.nodes.map (Choice.enc fl)), .int .i64 x.root] := rfl
def Diagram.w (x : Diagram) : Nat := x.nodes.length
theorem shut_Diagram {fl : Bool} {x : Diagram} : (x.enc fl).shut = x.enc fl := by
  rw [enc_Diagram]
  rfl
theorem shuts_Diagram {fl : Bool} {l : List Diagram} : AV.shuts (l.map (Diagram.enc fl)) = l.map (Diagram.enc fl) := shuts_same (fun _ => shut_Diagram) l
structure Compiled where
  atoms : List Cond
  diagram : Diagram
  version : Int
noncomputable instance : DecidableEq Compiled := fun a b => Classical.propDecidable (a = b)
instance : Inhabited Compiled := ⟨⟨default, default, default⟩⟩
def Compiled.enc (fl : Bool) (x : Compiled) : AV := .agg [.sl fl (x.atoms.map (Cond.enc fl)), .int .i64 x.diagram.atoms, .sl fl (x.diagram.nodes.map (Choice.enc fl)), .int .i64 x.diagram.root, .int .i64 x.version]
theorem enc_Compiled {fl : Bool} {x : Compiled} : x.enc fl = .agg [.sl fl (x.atoms.map (Cond.enc fl)), .int .i64 x.diagram.atoms, .sl fl (x.diagram.nodes.map (Choice.enc fl)), .int .i64 x.diagram.root, .int .i64 x.version] := rfl
def Compiled.w (x : Compiled) : Nat := wl Cond.w x.atoms + x.diagram.w
theorem shut_Compiled {fl : Bool} {x : Compiled} : (x.enc fl).shut = x.enc fl := by
  rw [enc_Compiled]
  rfl
theorem shuts_Compiled {fl : Bool} {l : List Compiled} : AV.shuts (l.map (Compiled.enc fl)) = l.map (Compiled.enc fl) := shuts_same (fun _ => shut_Compiled) l
theorem SH : type_of% (And.intro (And.intro (And.intro @shuts_int (And.intro @shuts_bool @shuts_Includes)) (And.intro (And.intro @shuts_Fact @shuts_Request) (And.intro @shuts_Choice @shuts_Conflict))) (And.intro (And.intro (And.intro @shuts_Cond @tshuts_Cond) (And.intro @shuts_Rule @tshuts_Rule)) (And.intro (And.intro @shuts_Policy @tshuts_Policy) (And.intro @shuts_Diagram @shuts_Compiled)))) := (And.intro (And.intro (And.intro @shuts_int (And.intro @shuts_bool @shuts_Includes)) (And.intro (And.intro @shuts_Fact @shuts_Request) (And.intro @shuts_Choice @shuts_Conflict))) (And.intro (And.intro (And.intro @shuts_Cond @tshuts_Cond) (And.intro @shuts_Rule @tshuts_Rule)) (And.intro (And.intro @shuts_Policy @tshuts_Policy) (And.intro @shuts_Diagram @shuts_Compiled))))
end Go.Proofs.YtokjpncehggojaaGreat.Flat
