/-
The program's data: as lists and trees, and how they are told.
-/
import Derived.Test.YtkolknigffoleaaFlatM5
import Derived.IntWalk
set_option linter.unusedVariables false
set_option linter.unusedSimpArgs false
namespace Go.Proofs.Ytkolknigffoleaa.Flat
def left (n : Int) (m : Nat) : Int := if (m : Int) ≤ n then n - m else -1
theorem left_le {n : Int} {m : Nat} (h : (m : Int) ≤ n) : left n m = n - m := if_pos h
theorem left_gt {n : Int} {m : Nat} (h : n < (m : Int)) : left n m = -1 := if_neg (by omega)
theorem left_lo {n : Int} {m : Nat} (h : -1 ≤ n) : -1 ≤ left n m := by
  unfold left; split <;> omega
theorem left_hi {n b : Int} {m : Nat} (h : n ≤ b) (hb : 0 ≤ b) : left n m ≤ b := by
  unfold left; split <;> omega
theorem left_left {n : Int} {a b : Nat} (h : -1 ≤ n) : left (left n a) b = left n (a + b) := by
  unfold left; split <;> split <;> split <;> omega
def wl {α : Type} (w : α → Nat) : List α → Nat
  | [] => 0
  | x :: r => 1 + w x + wl w r
theorem wl_mem {α : Type} {w : α → Nat} {s : List α} {x : α} (h : x ∈ s) : w x + 1 ≤ wl w s := by
  induction s with
  | nil => simp at h
  | cons d r ih =>
    simp -implicitDefEqProofs only [wl]
    rcases List.mem_cons.1 h with rfl | h
    · omega
    · have := ih h; omega
theorem wl_length {α : Type} (w : α → Nat) (s : List α) : s.length ≤ wl w s := by
  induction s with
  | nil => simp [wl]
  | cons c r ih => simp -implicitDefEqProofs only [wl, List.length_cons]; omega
theorem wl_append {α : Type} (w : α → Nat) (s t : List α) : wl w (s ++ t) = wl w s + wl w t := by
  induction s with
  | nil => simp [wl]
  | cons c r ih => simp -implicitDefEqProofs only [List.cons_append, wl, ih]; omega
def FitL {α : Type} (p : α → Prop) (s : List α) : Prop := s.length ≤ 140737488355328 ∧ ∀ x ∈ s, p x
theorem zip_at {α β : Type} {s : List α} {t : List β} (hl : s.length = t.length) {pre r : List (α × β)} {x : α × β} (h : s.zip t = pre ++ x :: r) : s[pre.length]? = some x.1 ∧ t[pre.length]? = some x.2 ∧ s = pre.map Prod.fst ++ x.1 :: r.map Prod.fst ∧ t = pre.map Prod.snd ++ x.2 :: r.map Prod.snd := by
  have h1 : (s.zip t).map Prod.fst = s := List.map_fst_zip (by omega)
  have h2 : (s.zip t).map Prod.snd = t := List.map_snd_zip (by omega)
  rw [h] at h1 h2
  refine ⟨?_, ?_, by rw [← h1]; simp, by rw [← h2]; simp⟩
  · rw [← h1]; simp
  · rw [← h2]; simp
theorem at_row {α : Type} {s pre r : List α} {x : α} (h : s = pre ++ x :: r) (hs : s.length ≤ 140737488355328) : s[pre.length]? = some x ∧ x ∈ s ∧ ((pre.length : Nat) : Int) < ((s.length : Nat) : Int) ∧ IntKind.i64.wrap ((pre.length : Int) + 1) = ((pre.length + 1 : Nat) : Int) ∧ pre.length < s.length := by
  have hl : s.length = pre.length + (r.length + 1) := by rw [h]; simp
  refine ⟨by rw [h]; simp, by rw [h]; simp, by omega, ?_, by omega⟩
  rw [IntWalk.i64_in _ (by omega)]; omega
theorem take_row {α : Type} {s pre r : List α} {x : α} (h : s = pre ++ x :: r) : s.take pre.length = pre ∧ s.take (pre.length + 1) = pre ++ [x] := by
  subst h
  refine ⟨by simp, ?_⟩
  rw [List.take_append, List.take_of_length_le (by omega)]
  simp
def szStep {α : Type} (w : α → Nat) (_ : Nat) (x : α) (m : Int) : Sum Int Int := if left m (w x) < 0 then .inl (-1) else .inr (left m (w x))
theorem szLoop {α : Type} (w : α → Nat) : ∀ (s : List α) (i : Nat) (m : Int), 0 ≤ m → loopL (szStep w) id i s m = left m (wl w s - s.length)
  | [], i, m, hm => by simp [loopL, left, wl, hm]
  | c :: r, i, m, hm => by
    have hr := wl_length w r
    have e : wl w (c :: r) - (c :: r).length = w c + (wl w r - r.length) := by simp -implicitDefEqProofs only [wl, List.length_cons]; omega
    rw [e]
    simp -implicitDefEqProofs only [loopL, szStep]
    by_cases h : ((w c : Nat) : Int) ≤ m
    · rw [left_le h, if_neg (by omega)]
      simp only
      rw [szLoop w r _ _ (by omega)]
      by_cases h2 : ((wl w r - r.length : Nat) : Int) ≤ m - (w c : Nat)
      · rw [left_le h2, left_le (by omega)]; omega
      · rw [left_gt (by omega), left_gt (by omega)]
    · rw [left_gt (by omega), if_pos (by omega), left_gt (by omega)]
def toStep {α : Type} (g : α → AV) (i : Nat) (x : α) (xs : List AV) : Sum (List AV) (List AV) := .inr (xs.set i (g x))
theorem toLoop {α : Type} (g : α → AV) : ∀ (s : List α) (i : Nat) (xs : List AV), xs.length = i + s.length → loopL (toStep g) id i s xs = xs.take i ++ s.map g
  | [], i, xs, h => by simp -implicitDefEqProofs only [loopL, List.map_nil, List.append_nil, id]; rw [List.take_of_length_le (by simp at h; omega)]
  | c :: r, i, xs, h => by
    simp -implicitDefEqProofs only [List.length_cons] at h
    simp -implicitDefEqProofs only [loopL, toStep]
    rw [toLoop g r (i + 1) (xs.set i (g c)) (by simp; omega)]
    rw [List.take_set, List.set_eq_take_append_cons_drop]
    simp -implicitDefEqProofs only [List.length_take, List.map_cons]
    rw [if_pos (by omega), List.take_take, List.drop_take]
    have e1 : min i (i + 1) = i := by omega
    rw [e1, List.append_assoc]
    simp
noncomputable def eqStep {α : Type} [DecidableEq α] (_ : Nat) (p : α × α) (_ : Unit) : Sum Bool Unit := if decide (p.1 = p.2) = true then .inr () else .inl false
theorem eqLoop {α : Type} [DecidableEq α] : ∀ (s t : List α) (i : Nat), s.length = t.length → loopL eqStep (fun _ => true) i (s.zip t) () = decide (s = t)
  | [], [], i, h => by simp [loopL]
  | [], y :: t, i, h => by simp at h
  | x :: s, [], i, h => by simp at h
  | x :: s, y :: t, i, h => by
    simp -implicitDefEqProofs only [List.zip_cons_cons, loopL, eqStep]
    by_cases e : x = y
    · subst e
      simp -implicitDefEqProofs only [decide_true, if_true]
      rw [eqLoop s t _ (by simpa using h)]
      simp
    · simp [e]
structure Cond where
  op : Int
  a : Int
  b : Int
  args : List Cond
noncomputable instance : DecidableEq Cond := fun a b => Classical.propDecidable (a = b)
instance : Inhabited Cond := ⟨⟨0, 0, 0, []⟩⟩
mutual
def Cond.enc (fl : Bool) : Cond → AV
  | ⟨o, a, b, s⟩ => .agg [.int .i64 o, .int .i64 a, .int .i64 b, .sl fl (Cond.encs fl s)]
def Cond.encs (fl : Bool) : List Cond → List AV
  | [] => []
  | c :: r => c.enc fl :: Cond.encs fl r
end
theorem encs_map (fl : Bool) (s : List Cond) : Cond.encs fl s = s.map (Cond.enc fl) := by
  induction s with
  | nil => simp [Cond.encs]
  | cons c r ih => simp [Cond.encs, ih]
theorem enc_Cond {fl : Bool} {x : Cond} : x.enc fl = .agg [.int .i64 x.op, .int .i64 x.a, .int .i64 x.b, .sl fl (x.args.map (Cond.enc fl))] := by
  cases x
  simp -implicitDefEqProofs only [Cond.enc, encs_map]
theorem Cond.induct {P : Cond → Prop} (h : ∀ c : Cond, (∀ d ∈ c.args, P d) → P c) : ∀ c, P c
  | ⟨o, a, b, s⟩ => h _ (go s)
where
  go : ∀ s : List Cond, ∀ d ∈ s, P d
    | [] => fun d hd => by simp at hd
    | c :: r => fun d hd => by
      rcases List.mem_cons.1 hd with e | hd
      · exact e ▸ Cond.induct h c
      · exact go r d hd
mutual
def Cond.w : Cond → Nat
  | ⟨_, _, _, s⟩ => Cond.ws s
def Cond.ws : List Cond → Nat
  | [] => 0
  | c :: r => 1 + c.w + Cond.ws r
end
theorem ws_wl (s : List Cond) : Cond.ws s = wl Cond.w s := by
  induction s with
  | nil => simp [Cond.ws, wl]
  | cons c r ih => simp [Cond.ws, wl, ih]
theorem Cond.w_eq (c : Cond) : c.w = wl Cond.w c.args := by
  cases c
  simp -implicitDefEqProofs only [Cond.w, ws_wl]
mutual
def Cond.fits : Cond → Prop
  | ⟨_, _, _, s⟩ => s.length ≤ 140737488355328 ∧ Cond.fitss s
def Cond.fitss : List Cond → Prop
  | [] => True
  | c :: r => c.fits ∧ Cond.fitss r
end
theorem fitss_all (s : List Cond) : Cond.fitss s ↔ ∀ x ∈ s, x.fits := by
  induction s with
  | nil => simp [Cond.fitss]
  | cons c r ih => simp [Cond.fitss, ih]
theorem Cond.fits_eq (c : Cond) : c.fits ↔ FitL Cond.fits c.args := by
  cases c
  simp -implicitDefEqProofs only [Cond.fits, FitL, fitss_all]
theorem shut_Cond {fl : Bool} {x : Cond} : (x.enc fl).shut = x.enc fl := by
  rw [enc_Cond]
  rfl
theorem shuts_Cond {fl : Bool} {l : List Cond} : AV.shuts (l.map (Cond.enc fl)) = l.map (Cond.enc fl) := shuts_same (fun _ => shut_Cond) l
mutual
def Cond.tenc : Cond → AV
  | ⟨o, a, b, s⟩ => .agg [.int .i64 o, .int .i64 a, .int .i64 b, .tr 41 4 (Cond.tencs s)]
def Cond.tencs : List Cond → List AV
  | [] => []
  | c :: r => c.tenc :: Cond.tencs r
end
theorem tencs_map (s : List Cond) : Cond.tencs s = s.map Cond.tenc := by
  induction s with
  | nil => simp [Cond.tencs]
  | cons c r ih => simp [Cond.tencs, ih]
theorem tenc_Cond {x : Cond} : x.tenc = .agg [.int .i64 x.op, .int .i64 x.a, .int .i64 x.b, .tr 41 4 (x.args.map Cond.tenc)] := by
  cases x
  simp -implicitDefEqProofs only [Cond.tenc, tencs_map]
theorem tshut_Cond (x : Cond) : x.tenc.shut = x.enc true := by
  induction x using Cond.induct with
  | h x ih =>
    rw [tenc_Cond, enc_Cond]
    have h : ∀ s : List Cond, (∀ c ∈ s, c.tenc.shut = c.enc true) → AV.shuts (s.map Cond.tenc) = s.map (Cond.enc true) := by
      intro s
      induction s with
      | nil => intro _; rfl
      | cons c r ihr => intro hc; simp -implicitDefEqProofs only [List.map_cons, AV.shuts]; rw [hc c (by simp), ihr fun d hd => hc d (by simp [hd])]
    simp -implicitDefEqProofs only [AV.shut, AV.shuts, h x.args ih]
theorem tscal_Cond (x : Cond) : x.tenc.scal = true := by
  induction x using Cond.induct with
  | h x ih =>
    rw [tenc_Cond]
    have h : ∀ s : List Cond, (∀ c ∈ s, c.tenc.scal = true) → AV.scals (s.map Cond.tenc) = true := by
      intro s
      induction s with
      | nil => intro _; rfl
      | cons c r ihr => intro hc; simp -implicitDefEqProofs only [List.map_cons, AV.scals]; rw [hc c (by simp), ihr fun d hd => hc d (by simp [hd])]; rfl
    simp -implicitDefEqProofs only [AV.scal, AV.scals, h x.args ih, Bool.and_self]
theorem tshuts_Cond {l : List Cond} : AV.shuts (l.map Cond.tenc) = l.map (Cond.enc true) := by
  induction l with
  | nil => rfl
  | cons c r ih => simp -implicitDefEqProofs only [List.map_cons, AV.shuts, ih, tshut_Cond]
theorem tscals_Cond (s : List Cond) : AV.scals (s.map Cond.tenc) = true := by
  induction s with
  | nil => rfl
  | cons c r ih => simp -implicitDefEqProofs only [List.map_cons, AV.scals, ih, Bool.and_true, tscal_Cond]
def Cond.encT (x : Cond) : AV := .agg [.int .i64 x.op, .int .i64 x.a, .int .i64 x.b, .own 0 false 41 4 (x.args.map Cond.tenc)]
structure Rule where
  effect : Int
  action : Int
  object : Int
  cond : Cond
noncomputable instance : DecidableEq Rule := fun a b => Classical.propDecidable (a = b)
instance : Inhabited Rule := ⟨⟨default, default, default, default⟩⟩
def Rule.enc (fl : Bool) (x : Rule) : AV := .agg [.int .i64 x.effect, .int .i64 x.action, .int .i64 x.object, .int .i64 x.cond.op, .int .i64 x.cond.a, .int .i64 x.cond.b, .sl fl (x.cond.args.map (Cond.enc fl))]
theorem enc_Rule {fl : Bool} {x : Rule} : x.enc fl = .agg [.int .i64 x.effect, .int .i64 x.action, .int .i64 x.object, .int .i64 x.cond.op, .int .i64 x.cond.a, .int .i64 x.cond.b, .sl fl (x.cond.args.map (Cond.enc fl))] := rfl
def Rule.w (x : Rule) : Nat := x.cond.w
def Rule.fits (x : Rule) : Prop := x.cond.fits
theorem shut_Rule {fl : Bool} {x : Rule} : (x.enc fl).shut = x.enc fl := by
  rw [enc_Rule]
  rfl
theorem shuts_Rule {fl : Bool} {l : List Rule} : AV.shuts (l.map (Rule.enc fl)) = l.map (Rule.enc fl) := shuts_same (fun _ => shut_Rule) l
def Rule.tenc (x : Rule) : AV := .agg [.int .i64 x.effect, .int .i64 x.action, .int .i64 x.object, .int .i64 x.cond.op, .int .i64 x.cond.a, .int .i64 x.cond.b, .tr 41 4 (x.cond.args.map Cond.tenc)]
theorem tenc_Rule {x : Rule} : x.tenc = .agg [.int .i64 x.effect, .int .i64 x.action, .int .i64 x.object, .int .i64 x.cond.op, .int .i64 x.cond.a, .int .i64 x.cond.b, .tr 41 4 (x.cond.args.map Cond.tenc)] := rfl
theorem tshut_Rule (x : Rule) : x.tenc.shut = x.enc true := by
  simp -implicitDefEqProofs only [tenc_Rule, enc_Rule, AV.shut, AV.shuts, tshuts_Cond]
theorem tscal_Rule (x : Rule) : x.tenc.scal = true := by
  simp -implicitDefEqProofs only [tenc_Rule, AV.scal, AV.scals, tscals_Cond, Bool.and_self]
theorem tshuts_Rule {l : List Rule} : AV.shuts (l.map Rule.tenc) = l.map (Rule.enc true) := by
  induction l with
  | nil => rfl
  | cons c r ih => simp -implicitDefEqProofs only [List.map_cons, AV.shuts, ih, tshut_Rule]
theorem tscals_Rule (s : List Rule) : AV.scals (s.map Rule.tenc) = true := by
  induction s with
  | nil => rfl
  | cons c r ih => simp -implicitDefEqProofs only [List.map_cons, AV.scals, ih, Bool.and_true, tscal_Rule]
def Rule.encT (x : Rule) : AV := .agg [.int .i64 x.effect, .int .i64 x.action, .int .i64 x.object, .int .i64 x.cond.op, .int .i64 x.cond.a, .int .i64 x.cond.b, .own 0 false 41 4 (x.cond.args.map Cond.tenc)]
structure Policy where
  version : Int
  rules : List Rule
noncomputable instance : DecidableEq Policy := fun a b => Classical.propDecidable (a = b)
instance : Inhabited Policy := ⟨⟨default, default⟩⟩
def Policy.enc (fl : Bool) (x : Policy) : AV := .agg [.int .i64 x.version, .sl fl (x.rules.map (Rule.enc fl))]
theorem enc_Policy {fl : Bool} {x : Policy} : x.enc fl = .agg [.int .i64 x.version, .sl fl (x.rules.map (Rule.enc fl))] := rfl
def Policy.w (x : Policy) : Nat := wl Rule.w x.rules
def Policy.fits (x : Policy) : Prop := FitL Rule.fits x.rules
theorem shut_Policy {fl : Bool} {x : Policy} : (x.enc fl).shut = x.enc fl := by
  rw [enc_Policy]
  rfl
theorem shuts_Policy {fl : Bool} {l : List Policy} : AV.shuts (l.map (Policy.enc fl)) = l.map (Policy.enc fl) := shuts_same (fun _ => shut_Policy) l
def Policy.tenc (x : Policy) : AV := .agg [.int .i64 x.version, .tr 43 7 (x.rules.map Rule.tenc)]
theorem tenc_Policy {x : Policy} : x.tenc = .agg [.int .i64 x.version, .tr 43 7 (x.rules.map Rule.tenc)] := rfl
theorem tshut_Policy (x : Policy) : x.tenc.shut = x.enc true := by
  simp -implicitDefEqProofs only [tenc_Policy, enc_Policy, AV.shut, AV.shuts, tshuts_Rule]
theorem tshuts_Policy {l : List Policy} : AV.shuts (l.map Policy.tenc) = l.map (Policy.enc true) := by
  induction l with
  | nil => rfl
  | cons c r ih => simp -implicitDefEqProofs only [List.map_cons, AV.shuts, ih, tshut_Policy]
def Policy.encT (x : Policy) : AV := .agg [.int .i64 x.version, .own 0 false 43 7 (x.rules.map Rule.tenc)]
theorem SH : type_of% (And.intro (And.intro (And.intro @shuts_int @shuts_bool) (And.intro @shuts_Cond @tshuts_Cond)) (And.intro (And.intro @shuts_Rule @tshuts_Rule) (And.intro @shuts_Policy @tshuts_Policy))) := (And.intro (And.intro (And.intro @shuts_int @shuts_bool) (And.intro @shuts_Cond @tshuts_Cond)) (And.intro (And.intro @shuts_Rule @tshuts_Rule) (And.intro @shuts_Policy @tshuts_Policy)))
end Go.Proofs.Ytkolknigffoleaa.Flat
