/-
The evaluator, a step at a time: rules to reckon with.
-/
import Derived.Test.YtgckhjcfcandmaaFlatCB
set_option linter.unusedVariables false
set_option linter.unusedSimpArgs false
namespace Go.Proofs.Ytgckhjcfcandmaa.Flat
section
variable {E : Env} {Φ : Phi} {n f np nid : Nat} {all : List Oper} {o : Oper} {st st' : St}

/-- An operation, if it is wanted. -/
def gate (E : Env) (Φ : Phi) (nid : Nat) (o : Oper) (st : St) : Option Bool → Option St
  | some t => if t = true then evOp E Φ nid o st else st.put o.dst .undef
  | none => none
def gateQ (E : Env) (Φ : Phi) (nid : Nat) (o : Oper) (st : St) : Option Bool → Option St
  | some t => if t = true then evOpQ E Φ nid o st else st.put o.dst .undef
  | none => none
def thenOps (E : Env) (Φ : Phi) (all : List Oper) (nid : Nat) (r : List Oper) (x : Option St) : Option St := x.bind (evOps E Φ all nid r)
def thenPlan (E : Env) (Φ : Phi) (all : List Oper) (r : List (Bool × Nat)) (nid : Nat) (x : Option St) : Option St := x.bind (evPlan E Φ all r nid)
def thenNx (n : Nat) (x : Option St) : Option (Exit × St) := x.map fun st => (.normal, { st with nx := n })
def thenEv (E : Env) (Φ : Phi) (n f np : Nat) (c : Code) (x : Option (Exit × St)) : Option (Exit × St) := x.bind fun (e, st) => match e with
  | .normal => ev E Φ n f np c st
  | e => some (e, st)
def outOf (id : Nat) (x : Option (Exit × St)) : Option (Exit × St) := x.map fun (e, st) => match e with
  | .exit j => (if j = id then .normal else .exit j, st)
  | e => (e, st)
def ifEv (E : Env) (Φ : Phi) (n f np : Nat) (x y : Code) (st : St) : AV → Option (Exit × St)
  | .bool b => if b = true then ev E Φ n f np x st else ev E Φ n f np y st
  | _ => none
def thenEnd (P : Program) (md : List Mode) (rs : List ResultVar) (np : Nat) (x : Option (Exit × St)) : Option (AV × List (List AV)) := x.bind fun (e, st) => match e with
  | .normal => finish P md rs np st
  | .ret => finish P md rs np st
  | _ => none
def thenIter (E : Env) (Φ : Phi) (n f np m : Nat) (c : Code) (x : Option (Exit × St)) : Option (Exit × St) := x.bind fun (e, st') => match e with
  | .normal => iter (ev E Φ n f np c) (gc np (E.keep f (firstRegion c))) m st'
  | e => some (e, st')

theorem evOps_nil : evOps E Φ all nid [] st = some st := rfl
theorem evOps_cons {r : List Oper} : evOps E Φ all nid (o :: r) st = thenOps E Φ all (nid + 8) r (gate E Φ nid o st (wanted all o st)) := by
  simp only [evOps, thenOps]
  cases h : wanted all o st with
  | none => rfl
  | some t => cases t <;> rfl
theorem thenOps_some {r : List Oper} : thenOps E Φ all nid r (some st) = evOps E Φ all nid r st := rfl
theorem gate_some {t : Bool} : gate E Φ nid o st (some t) = if t = true then evOp E Φ nid o st else st.put o.dst .undef := rfl
theorem gateQ_some {t : Bool} : gateQ E Φ nid o st (some t) = if t = true then evOpQ E Φ nid o st else st.put o.dst .undef := rfl
theorem evPlan_nil : evPlan E Φ all [] nid st = some st := rfl
def gateAt (E : Env) (Φ : Phi) (nid : Nat) (all : List Oper) (st : St) (q : Bool) : Option Oper → Option St
  | some o => if q = true then gateQ E Φ nid o st (wanted all o st) else gate E Φ nid o st (wanted all o st)
  | none => none
theorem gateAt_some {q : Bool} : gateAt E Φ nid all st q (some o) = if q = true then gateQ E Φ nid o st (wanted all o st) else gate E Φ nid o st (wanted all o st) := rfl
theorem evPlan_cons {i : Nat} {q : Bool} {r : List (Bool × Nat)} : evPlan E Φ all ((q, i) :: r) nid st = thenPlan E Φ all r (nid + 8) (gateAt E Φ nid all st q all[i]?) := by
  simp only [evPlan, thenPlan]
  cases all[i]? with
  | none => rfl
  | some o =>
    simp only [Option.bind_some, gateAt]
    cases wanted all o st with
    | none => cases q <;> rfl
    | some t => cases t <;> cases q <;> rfl
theorem thenPlan_some {r : List (Bool × Nat)} : thenPlan E Φ all r nid (some st) = evPlan E Φ all r nid st := rfl
theorem thenNx_some : thenNx n (some st) = some (.normal, { st with nx := n }) := rfl
theorem ev_region {id : Nat} {l : List Oper} : ev E Φ n f np (.region id l.toArray false) st = thenNx (st.nx + 8 * l.length) (evOps E Φ l st.nx l st) := by
  simp only [ev, evRegion, thenNx]
  cases evOps E Φ l st.nx l st <;> rfl
theorem ev_regionD {id : Nat} {l : List Oper} : ev E Φ n f np (.region id l.toArray true) st = thenNx (st.nx + 8 * (E.plan f id).length) (evPlan E Φ l (E.plan f id) st.nx st) := by
  simp only [ev, evRegion, thenNx]
  cases evPlan E Φ l (E.plan f id) st.nx st <;> rfl
theorem ev_skip : ev E Φ n f np .skip st = some (.normal, st) := rfl
theorem ev_ret : ev E Φ n f np .ret st = some (.ret, st) := rfl
theorem ev_exit {id : Nat} : ev E Φ n f np (.exit id) st = some (.exit id, st) := rfl
theorem ev_label {l : Nat} : ev E Φ n f np (.label l) st = some (.normal, st) := rfl
theorem ev_seq {x y : Code} : ev E Φ n f np (.seq x y) st = thenEv E Φ n f np y (ev E Φ n f np x st) := by
  simp only [ev, thenEv]
  rfl
theorem thenEv_normal {y : Code} : thenEv E Φ n f np y (some (.normal, st)) = ev E Φ n f np y st := rfl
theorem thenEv_ret {y : Code} : thenEv E Φ n f np y (some (.ret, st)) = some (.ret, st) := rfl
theorem thenEv_exit {y : Code} {j : Nat} : thenEv E Φ n f np y (some (.exit j, st)) = some (.exit j, st) := rfl
theorem ev_cond {c : Operand} {x y : Code} : ev E Φ n f np (.cond c x y) st = ifEv E Φ n f np x y st (st.val c) := by
  simp only [ev]
  cases st.val c <;> rfl
theorem ifEv_true {x y : Code} : ifEv E Φ n f np x y st (.bool true) = ev E Φ n f np x st := rfl
theorem ifEv_false {x y : Code} : ifEv E Φ n f np x y st (.bool false) = ev E Φ n f np y st := rfl
theorem ifEv_split {x y : Code} {b : Bool} {r : Option (Exit × St)} (ht : b = true → ev E Φ n f np x st = r) (hf : b = false → ev E Φ n f np y st = r) : ifEv E Φ n f np x y st (.bool b) = r := by
  cases b
  · exact hf rfl
  · exact ht rfl
theorem ev_block {id : Nat} {c : Code} : ev E Φ n f np (.block id c) st = outOf id (ev E Φ n f np c st) := rfl
theorem outOf_normal {id : Nat} : outOf id (some (.normal, st)) = some (.normal, st) := rfl
theorem outOf_ret {id : Nat} : outOf id (some (.ret, st)) = some (.ret, st) := rfl
theorem outOf_exit {id : Nat} : outOf id (some (.exit id, st)) = some (.normal, st) := by simp [outOf]
theorem outOf_other {id j : Nat} (h : (j == id) = false) : outOf id (some (.exit j, st)) = some (.exit j, st) := by
  have : j ≠ id := by simpa using h
  simp [outOf, this]
theorem ev_loop {c : Code} : ev E Φ n f np (.loop c) st = iter (ev E Φ n f np c) (gc np (E.keep f (firstRegion c))) n st := rfl
theorem iter_succ {c : Code} {m : Nat} {s1 : St} (h : gc np (E.keep f (firstRegion c)) st = some s1) : iter (ev E Φ n f np c) (gc np (E.keep f (firstRegion c))) (m + 1) st = thenIter E Φ n f np m c (ev E Φ n f np c s1) := by
  simp only [iter, h, Option.bind_some, thenIter]
  rfl
theorem thenIter_normal {c : Code} {m : Nat} : thenIter E Φ n f np m c (some (.normal, st)) = iter (ev E Φ n f np c) (gc np (E.keep f (firstRegion c))) m st := rfl
theorem thenIter_ret {c : Code} {m : Nat} : thenIter E Φ n f np m c (some (.ret, st)) = some (.ret, st) := rfl
theorem thenIter_exit {c : Code} {m j : Nat} : thenIter E Φ n f np m c (some (.exit j, st)) = some (.exit j, st) := rfl
theorem body_eq {fn : Func} {c : Code} {args : List AV} {sl : List (Nat × AV)} {nt : Nat} {rs : List ResultVar} (h : E.P.funcs[f]? = some fn) (hc : fn.body = some c) (hs : numbered 0 args = sl) (hnt : max fn.ntmps args.length = nt) (hr : fn.results.toList = rs) :
    body E Φ n f args [] = thenEnd E.P (E.md f) rs 0 (ev E Φ n f 0 c { sl := sl, bx := [], nx := 16, nt := nt }) := by
  subst hs; subst hnt; subst hr
  simp only [body, h, hc, Option.bind_some, thenEnd]
  rfl
theorem thenEnd_normal {P : Program} {md : List Mode} {rs : List ResultVar} : thenEnd P md rs np (some (.normal, st)) = finish P md rs np st := rfl
theorem thenEnd_ret {P : Program} {md : List Mode} {rs : List ResultVar} : thenEnd P md rs np (some (.ret, st)) = finish P md rs np st := rfl
theorem wanted_none (h : o.guard = none) : wanted all o st = some true := by simp [wanted, h]
theorem put_none {v : AV} : st.put none v = some st := rfl
theorem put_some {i : Nat} {v : AV} (h : (i < st.nt) = True) : st.put (some i) v = some { st with sl := (i, v) :: st.sl } := by
  have : i < st.nt := of_eq_true h
  simp [St.put, this]
end
end Go.Proofs.Ytgckhjcfcandmaa.Flat
