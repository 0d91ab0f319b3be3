/-
The evaluator, a step at a time: rules to reckon with.
-/
import Derived.Test.YtogjbacgkcodmaaFlatM4
set_option linter.unusedVariables false
set_option linter.unusedSimpArgs false
namespace Go.Proofs.Ytogjbacgkcodmaa.Flat
section
variable {E : Env} {Φ : Phi} {n f np nid : Nat} {all : List Oper} {o : Oper} {st st' : St}

/-- An operation, if it is wanted. -/
def gate (E : Env) (Φ : Phi) (nid : Nat) (o : Oper) (st : St) : Option Bool → Option St
  | some t => if t = true then evOp E Φ nid o st else st.put o.dst (.tup [])
  | none => none
def gateQ (E : Env) (Φ : Phi) (nid : Nat) (o : Oper) (st : St) : Option Bool → Option St
  | some t => if t = true then evOpQ E Φ nid o st else st.put o.dst (.tup [])
  | none => none
def thenOps (E : Env) (Φ : Phi) (all : List Oper) (nid : Nat) (r : List Oper) (x : Option St) : Option St := x.bind (evOps E Φ all nid r)
def thenPlan (E : Env) (Φ : Phi) (all : List Oper) (r : List (Bool × Nat)) (nid : Nat) (x : Option St) : Option St := x.bind (evPlan E Φ all r nid)
def thenNx (n : Nat) (x : Option St) : Option (Exit × St) := x.map fun st => (.normal, { st with nx := n })
def thenEv (E : Env) (Φ : Phi) (n f np : Nat) (c : Code) (x : Option (Exit × St)) : Option (Exit × St) := x.bind fun (e, st) => match e with
  | .normal => ev E Φ n f np c st
  | e => some (e, st)
def outOf (id : Nat) (x : Option (Exit × St)) : Option (Exit × St) := x.map fun (e, st) => match e with
  | .exit j => (if j = id then .normal else .exit j, st)
  | e => (e, st)
def ifEv (E : Env) (Φ : Phi) (n f np : Nat) (x y : Code) (st : St) : AV → Option (Exit × St)
  | .bool b => if b = true then ev E Φ n f np x st else ev E Φ n f np y st
  | _ => none
def thenEnd (P : Program) (md : List Mode) (rs : List ResultVar) (np : Nat) (x : Option (Exit × St)) : Option (AV × List (List AV)) := x.bind fun (e, st) => match e with
  | .normal => finish P md rs np st
  | .ret => finish P md rs np st
  | _ => none
def thenIter (E : Env) (Φ : Phi) (n f np m : Nat) (c : Code) (H : St → Option St) (x : Option (Exit × St)) : Option (Exit × St) := x.bind fun (e, st') => match e with
  | .normal => iter (ev E Φ n f np c) H m st'
  | e => some (e, st')

theorem evOps_nil : evOps E Φ all nid [] st = some st := rfl
theorem evOps_cons {r : List Oper} : evOps E Φ all nid (o :: r) st = thenOps E Φ all (nid + 8) r (gate E Φ nid o st (wanted all o st)) := by
  simp only [evOps, thenOps]
  cases h : wanted all o st with
  | none => rfl
  | some t => cases t <;> rfl
theorem thenOps_some {r : List Oper} : thenOps E Φ all nid r (some st) = evOps E Φ all nid r st := rfl
theorem gate_some {t : Bool} : gate E Φ nid o st (some t) = if t = true then evOp E Φ nid o st else st.put o.dst (.tup []) := rfl
theorem gateQ_some {t : Bool} : gateQ E Φ nid o st (some t) = if t = true then evOpQ E Φ nid o st else st.put o.dst (.tup []) := rfl
theorem evPlan_nil : evPlan E Φ all [] nid st = some st := rfl
def gateAt (E : Env) (Φ : Phi) (nid : Nat) (all : List Oper) (st : St) (q : Bool) : Option Oper → Option St
  | some o => if q = true then gateQ E Φ nid o st (wanted all o st) else gate E Φ nid o st (wanted all o st)
  | none => none
theorem gateAt_some {q : Bool} : gateAt E Φ nid all st q (some o) = if q = true then gateQ E Φ nid o st (wanted all o st) else gate E Φ nid o st (wanted all o st) := rfl
theorem evPlan_cons {i : Nat} {q : Bool} {r : List (Bool × Nat)} : evPlan E Φ all ((q, i) :: r) nid st = thenPlan E Φ all r (nid + 8) (gateAt E Φ nid all st q all[i]?) := by
  simp only [evPlan, thenPlan]
  cases all[i]? with
  | none => rfl
  | some o =>
    simp only [Option.bind_some, gateAt]
    cases wanted all o st with
    | none => cases q <;> rfl
    | some t => cases t <;> cases q <;> rfl
theorem thenPlan_some {r : List (Bool × Nat)} : thenPlan E Φ all r nid (some st) = evPlan E Φ all r nid st := rfl
theorem thenNx_some : thenNx n (some st) = some (.normal, { st with nx := n }) := rfl
theorem ev_region {id : Nat} {l : List Oper} : ev E Φ n f np (.region id l.toArray false) st = thenNx (st.nx + 8 * l.length) (evOps E Φ l st.nx l st) := by
  simp only [ev, evRegion, thenNx]
  cases evOps E Φ l st.nx l st <;> rfl
theorem ev_regionD {id : Nat} {l : List Oper} : ev E Φ n f np (.region id l.toArray true) st = thenNx (st.nx + 8 * (E.plan f id).length) (evPlan E Φ l (E.plan f id) st.nx st) := by
  simp only [ev, evRegion, thenNx]
  cases evPlan E Φ l (E.plan f id) st.nx st <;> rfl
theorem ev_skip : ev E Φ n f np .skip st = some (.normal, st) := rfl
theorem ev_ret : ev E Φ n f np .ret st = some (.ret, st) := rfl
theorem ev_exit {id : Nat} : ev E Φ n f np (.exit id) st = some (.exit id, st) := rfl
theorem ev_label {l : Nat} : ev E Φ n f np (.label l) st = some (.normal, st) := rfl
theorem ev_seq {x y : Code} : ev E Φ n f np (.seq x y) st = thenEv E Φ n f np y (ev E Φ n f np x st) := by
  simp only [ev, thenEv]
  rfl
theorem thenEv_normal {y : Code} : thenEv E Φ n f np y (some (.normal, st)) = ev E Φ n f np y st := rfl
theorem thenEv_ret {y : Code} : thenEv E Φ n f np y (some (.ret, st)) = some (.ret, st) := rfl
theorem thenEv_exit {y : Code} {j : Nat} : thenEv E Φ n f np y (some (.exit j, st)) = some (.exit j, st) := rfl
theorem ev_cond {c : Operand} {x y : Code} : ev E Φ n f np (.cond c x y) st = ifEv E Φ n f np x y st (st.val c) := by
  simp only [ev]
  cases st.val c <;> rfl
theorem ifEv_true {x y : Code} : ifEv E Φ n f np x y st (.bool true) = ev E Φ n f np x st := rfl
theorem ifEv_false {x y : Code} : ifEv E Φ n f np x y st (.bool false) = ev E Φ n f np y st := rfl
theorem ifEv_split {x y : Code} {b : Bool} {r : Option (Exit × St)} (ht : b = true → ev E Φ n f np x st = r) (hf : b = false → ev E Φ n f np y st = r) : ifEv E Φ n f np x y st (.bool b) = r := by
  cases b
  · exact hf rfl
  · exact ht rfl
theorem ev_block {id : Nat} {c : Code} : ev E Φ n f np (.block id c) st = outOf id (ev E Φ n f np c st) := rfl
theorem outOf_normal {id : Nat} : outOf id (some (.normal, st)) = some (.normal, st) := rfl
theorem outOf_ret {id : Nat} : outOf id (some (.ret, st)) = some (.ret, st) := rfl
theorem outOf_exit {id : Nat} : outOf id (some (.exit id, st)) = some (.normal, st) := by simp [outOf]
theorem outOf_other {id j : Nat} (h : (j == id) = false) : outOf id (some (.exit j, st)) = some (.exit j, st) := by
  have : j ≠ id := by simpa using h
  simp [outOf, this]
theorem ev_loop {c : Code} : ev E Φ n f np (.loop c) st = iter (ev E Φ n f np c) (gc np (E.keep f (firstRegion c))) n st := rfl
theorem iter_succ {c : Code} {m : Nat} {H : St → Option St} {s1 : St} (h : H st = some s1) : iter (ev E Φ n f np c) H (m + 1) st = thenIter E Φ n f np m c H (ev E Φ n f np c s1) := by
  simp only [iter, h, Option.bind_some, thenIter]
  rfl
theorem thenIter_normal {c : Code} {m : Nat} {H : St → Option St} : thenIter E Φ n f np m c H (some (.normal, st)) = iter (ev E Φ n f np c) H m st := rfl
theorem thenIter_ret {c : Code} {m : Nat} {H : St → Option St} : thenIter E Φ n f np m c H (some (.ret, st)) = some (.ret, st) := rfl
theorem thenIter_exit {c : Code} {m j : Nat} {H : St → Option St} : thenIter E Φ n f np m c H (some (.exit j, st)) = some (.exit j, st) := rfl
/-- The first loop's body; what is behind it is asked for by name. -/
def loop1 : Code → Option Code
  | .loop c => some c
  | .seq x y => match loop1 x with
    | some c => some c
    | none => loop1 y
  | .block _ c => loop1 c
  | .scope c => loop1 c
  | .cond _ x y => match loop1 x with
    | some c => some c
    | none => loop1 y
  | _ => none
def loopOf (fn : Func) : Code := (fn.body.bind loop1).getD .skip
theorem body_eq {fn : Func} {c : Code} {args : List AV} {sl : List (Nat × AV)} {nt : Nat} {rs : List ResultVar} (h : E.P.funcs[f]? = some fn) (hc : fn.body = some c) (hs : numbered 0 args = sl) (hnt : max fn.ntmps args.length = nt) (hr : fn.results.toList = rs) :
    body E Φ n f args [] = thenEnd E.P (E.md f) rs 0 (ev E Φ n f 0 c { sl := sl, bx := [], nx := 16, nt := nt }) := by
  subst hs; subst hnt; subst hr
  simp only [body, h, hc, Option.bind_some, thenEnd]
  rfl
theorem thenEnd_normal {P : Program} {md : List Mode} {rs : List ResultVar} : thenEnd P md rs np (some (.normal, st)) = finish P md rs np st := rfl
theorem thenEnd_ret {P : Program} {md : List Mode} {rs : List ResultVar} : thenEnd P md rs np (some (.ret, st)) = finish P md rs np st := rfl
theorem wanted_none (h : o.guard = none) : wanted all o st = some true := by simp [wanted, h]
theorem put_none {v : AV} : st.put none v = some st := rfl
theorem put_some {i : Nat} {v : AV} (h : (i < st.nt) = True) : st.put (some i) v = some { st with sl := (i, v) :: st.sl } := by
  have : i < st.nt := of_eq_true h
  simp [St.put, this]
end
end Go.Proofs.Ytogjbacgkcodmaa.Flat
/-
The evaluator, a step at a time: the operations.
-/
set_option linter.unusedVariables false
set_option linter.unusedSimpArgs false
namespace Go.Proofs.Ytogjbacgkcodmaa.Flat
section
variable {E : Env} {Φ : Phi} {n f np nid : Nat} {all : List Oper} {st st' : St} {dst : Option Nat} {type : TypeId} {pos : String} {after : Array Edge} {guard : Option (Nat × Bool)} {P : Program}

def thenPut (st : St) (dst : Option Nat) (x : Option AV) : Option St := x.bind (st.put dst)
theorem thenPut_some {v : AV} : thenPut st dst (some v) = st.put dst v := rfl
def lookD (i : Nat) : List (Nat × AV) → AV
  | [] => .undef
  | (j, v) :: r => if i = j then v else lookD i r
theorem get_mk {sl : List (Nat × AV)} {bx : List (Nat × List AV)} {nx nt i : Nat} : St.get { sl := sl, bx := bx, nx := nx, nt := nt } i = lookD i sl := by
  simp only [St.get]
  induction sl with
  | nil => rfl
  | cons p r ih =>
    obtain ⟨j, v⟩ := p
    simp only [look, lookD]
    split
    · rfl
    · exact ih
theorem lookD_cons {i j : Nat} {v : AV} {r : List (Nat × AV)} : lookD i ((j, v) :: r) = if i = j then v else lookD i r := rfl
theorem look_c {i j : Nat} {v : List AV} {r : List (Nat × List AV)} : look i ((j, v) :: r) = if i = j then some v else look i r := rfl
theorem box_mk {sl : List (Nat × AV)} {bx : List (Nat × List AV)} {nx nt i : Nat} : St.box { sl := sl, bx := bx, nx := nx, nt := nt } i = look i bx := rfl
theorem setBox_mk {sl : List (Nat × AV)} {bx : List (Nat × List AV)} {nx nt i : Nat} {cs : List AV} : St.setBox { sl := sl, bx := bx, nx := nx, nt := nt } i cs = { sl := sl, bx := (i, cs) :: bx, nx := nx, nt := nt } := rfl
theorem put_mk {sl : List (Nat × AV)} {bx : List (Nat × List AV)} {nx nt i : Nat} {v : AV} : St.put { sl := sl, bx := bx, nx := nx, nt := nt } (some i) v = if i < nt then some { sl := (i, v) :: sl, bx := bx, nx := nx, nt := nt } else none := rfl
theorem val_tmp {t : Nat} : st.val (.tmp t) = st.get t := rfl
theorem val_func {g : Nat} : st.val (.func g) = .clo g [] := rfl
theorem val_int {k : IntKind} {z : Int} : st.val (.const (.int k z)) = .int k z := rfl
theorem val_bool {b : Bool} : st.val (.const (.bool b)) = .bool b := rfl
theorem val_str {s : ByteArray} : st.val (.const (.string s)) = .str s := rfl
theorem val_nils : st.val (.const (.slice none 0 0)) = .nils := rfl

theorem op_move {x : Operand} : evOp E Φ nid { dst, op := .move x, type, pos, after, guard } st = st.put dst (st.val x) := rfl
theorem op_assign {x : Operand} : evOp E Φ nid { dst, op := .assign x, type, pos, after, guard } st = st.put dst (st.val x) := rfl
def evPick (x y : AV) : AV → Option AV
  | .bool t => some (if t = true then x else y)
  | _ => none
theorem pick_true {x y : AV} : evPick x y (.bool true) = some x := rfl
theorem pick_false {x y : AV} : evPick x y (.bool false) = some y := rfl
theorem pick_bools {t a b : Bool} : evPick (.bool a) (.bool b) (.bool t) = some (.bool (if t = true then a else b)) := by cases t <;> rfl
theorem op_pick {c x y : Operand} : evOp E Φ nid { dst, op := .pick c x y, type, pos, after, guard } st = thenPut st dst (evPick (st.val x) (st.val y) (st.val c)) := by
  simp only [evOp, evFree, thenPut]
  cases st.val c <;> rfl
theorem op_load {t : TypeId} {x : Operand} : evOp E Φ nid { dst, op := .load t x, type, pos, after, guard } st = thenPut st dst (evLoad E.P st.box t (st.val x)) := by
  simp only [evOp, evFree, thenPut]
  cases evLoad E.P st.box t (st.val x) <;> rfl
theorem op_fieldAddr {t : TypeId} {x : Operand} {i : Nat} : evOp E Φ nid { dst, op := .fieldAddr t x i, type, pos, after, guard } st = thenPut st dst (evFieldAddr E.P t (st.val x) i) := by
  simp only [evOp, evFree, thenPut]
  cases evFieldAddr E.P t (st.val x) i <;> rfl
theorem op_field {t : TypeId} {x : Operand} {i : Nat} : evOp E Φ nid { dst, op := .field t x i, type, pos, after, guard } st = thenPut st dst (evField E.P t (st.val x) i) := by
  simp only [evOp, evFree, thenPut]
  cases evField E.P t (st.val x) i <;> rfl
theorem op_indexAddr {t : TypeId} {x y : Operand} : evOp E Φ nid { dst, op := .indexAddr t x y, type, pos, after, guard } st = thenPut st dst (evIndexAddr E.P t (st.val x) (st.val y)) := by
  simp only [evOp, evFree, thenPut]
  cases evIndexAddr E.P t (st.val x) (st.val y) <;> rfl
theorem op_index {t : TypeId} {x y : Operand} : evOp E Φ nid { dst, op := .index t x y, type, pos, after, guard } st = thenPut st dst (evIndex E.P t (st.val x) (st.val y)) := by
  simp only [evOp, evFree, thenPut]
  cases evIndex E.P t (st.val x) (st.val y) <;> rfl
theorem op_unOp {u : UnOp} {t : TypeId} {x : Operand} : evOp E Φ nid { dst, op := .unOp u t x, type, pos, after, guard } st = thenPut st dst (evUn u (st.val x)) := by
  simp only [evOp, evFree, thenPut]
  cases evUn u (st.val x) <;> rfl
theorem op_convert {s d : TypeId} {x : Operand} : evOp E Φ nid { dst, op := .convert s d x, type, pos, after, guard } st = thenPut st dst (evConvert E.P s d (st.val x)) := by
  simp only [evOp, evFree, thenPut]
  cases evConvert E.P s d (st.val x) <;> rfl
def evBin2 (P : Program) (op : BinOp) (t : TypeId) : AV → AV → Option AV
  | .agg a, .agg b => (evEq P t a b).bind fun r => match op with | .eql => some (.bool r) | .neq => some (.bool (!r)) | _ => none
  | a, b => evBin P op t a b
theorem evBin2_map (op : BinOp) (t : TypeId) (X Y : AV) : (match X, Y with
    | .agg a, .agg b => (evEq P t a b).bind fun r => (match op with | .eql => some (.bool r, ([] : List Nat)) | .neq => some (.bool (!r), []) | _ => none)
    | a, b => (evBin P op t a b).map (·, [])) = (evBin2 P op t X Y).map (·, []) := by
  cases X <;> cases Y <;> first
    | rfl
    | (rename_i a b
       simp only [evBin2]
       cases evEq P t a b with
       | none => rfl
       | some r => cases op <;> rfl)
theorem op_binOp {op : BinOp} {t u : TypeId} {x y : Operand} : evOp E Φ nid { dst, op := .binOp op t x y u, type, pos, after, guard } st = thenPut st dst (evBin2 E.P op t (st.val x) (st.val y)) := by
  have h : evFree E Φ st.box nid st.val (.binOp op t x y u) = (evBin2 E.P op t (st.val x) (st.val y)).map (·, []) := evBin2_map (P := E.P) op t (st.val x) (st.val y)
  show (evFree E Φ st.box nid st.val (.binOp op t x y u)).bind (fun (v, _) => st.put dst v) = _
  rw [h]
  simp only [thenPut]
  cases evBin2 E.P op t (st.val x) (st.val y) <;> rfl
def evExtract (i : Nat) : AV → Option AV
  | .tup vs => vs[i]?
  | _ => none
theorem extract_tup {vs : List AV} {i : Nat} : evExtract i (.tup vs) = vs[i]? := rfl
theorem op_extract {x : Operand} {i : Nat} : evOp E Φ nid { dst, op := .extract x i, type, pos, after, guard } st = thenPut st dst (evExtract i (st.val x)) := by
  have h : evFree E Φ st.box nid st.val (.extract x i) = (evExtract i (st.val x)).map (·, []) := by
    simp only [evFree, evExtract]
    cases st.val x <;> rfl
  show (evFree E Φ st.box nid st.val (.extract x i)).bind (fun (v, _) => st.put dst v) = _
  rw [h]
  simp only [thenPut]
  cases evExtract i (st.val x) <;> rfl
theorem op_build {t : TypeId} {ps : Array (Nat × Operand)} : evOp E Φ nid { dst, op := .build t ps, type, pos, after, guard } st = thenPut st dst (evBuild E.P t (ps.toList.map fun p => (p.1, st.val p.2))) := by
  simp only [evOp, evFree, thenPut]
  cases evBuild E.P t (ps.toList.map fun p => (p.1, st.val p.2)) <;> rfl
theorem op_len {x : Operand} {t : TypeId} : evOp E Φ nid { dst, op := .call { callee := .builtin .len, args := #[x], argTypes := #[t] }, type, pos, after, guard } st = thenPut st dst (evLen E.P t (st.val x)) := by
  simp only [evOp, evFree, thenPut]
  simp only [List.getElem?_toArray, List.getElem?_cons_zero]
  cases evLen E.P t (st.val x) <;> rfl
theorem op_alloc {t : TypeId} : evOp E Φ nid { dst, op := .alloc t, type, pos, after, guard } st = evAlloc E.P t nid dst st := rfl
theorem op_box {t : TypeId} {x : Operand} : evOp E Φ nid { dst, op := .box t x, type, pos, after, guard } st = evBox nid dst (st.val x) st := rfl
theorem op_store {t : TypeId} {x p : Operand} : evOp E Φ nid { dst, op := .store t p x, type, pos, after, guard } st = evStore E.P t (st.val p) (st.val x) dst st := rfl
theorem op_buildSlice {t : TypeId} {len : Nat} {ps : Array (Nat × Operand)} : evOp E Φ nid { dst, op := .buildSlice t len ps, type, pos, after, guard } st = evBuildSlice E.P t len (ps.toList.map fun p => (p.1, st.val p.2)) nid dst st := rfl
theorem op_makeSlice {t : TypeId} {l c : Operand} : evOp E Φ nid { dst, op := .makeSlice t l c, type, pos, after, guard } st = evMakeSlice E.P t (st.val l) (st.val c) nid dst st := rfl
theorem op_append {s x : Operand} {t u : TypeId} : evOp E Φ nid { dst, op := .call { callee := .builtin .append, args := #[s, x], argTypes := #[t, u] }, type, pos, after, guard } st = evAppend E.P t u (st.val s) (st.val x) nid dst st := rfl
theorem op_makeFunc {g : Nat} {cs : Array Operand} : evOp E Φ nid { dst, op := .makeFunc (.func g) #[] cs, type, pos, after, guard } st = st.put dst (.clo g (cs.toList.map st.val)) := rfl

/-- What a call of a function hands back. -/
def afterRo (nid : Nat) (dst : Option Nat) (st : St) (args : List AV) : Option (AV × List (List AV)) → Option St
  | some (ret, []) => if small ret = true then (if noref ret = true then st.put dst (import_ nid ret) else if args.any (·.any isPtr) = true then none else (st.freeze (args.flatMap AV.rows)).put dst (import_ nid ret)) else none
  | _ => none
theorem op_call {fo : Operand} {as : Array Operand} {ts : Array TypeId} {g : Nat} {caps : List AV} (hf : st.val fo = .clo g caps) (hk : E.kill g = false) (hm : (E.md g).all (· == .ro) = true) :
    evOp E Φ nid { dst, op := .call { callee := .value fo, args := as, argTypes := ts }, type, pos, after, guard } st =
      afterRo nid dst st (as.toList.map st.val ++ caps) (Φ g ((as.toList.map st.val ++ caps).map (lend st.box 4)) []) := by
  simp only [evOp, hf, hk, hm, Bool.false_eq_true, if_false, if_true, evRo]
  cases Φ g ((as.toList.map st.val ++ caps).map (lend st.box 4)) [] with
  | none => rfl
  | some p =>
    obtain ⟨ret, fin⟩ := p
    cases fin with
    | cons _ _ => rfl
    | nil =>
      simp only [Option.bind_some, afterRo]
      split
      · split
        · rfl
        · split <;> rfl
      · rfl
theorem opQ_call {fo : Operand} {as : Array Operand} {ts : Array TypeId} {g : Nat} {caps : List AV} {ret : AV} (hf : st.val fo = .clo g caps) (hk : E.kill g = false) (hm : (E.md g).all (· == .ro) = true)
    (hΦ : Φ g ((as.toList.map st.val ++ caps).map (lend st.box 4)) [] = some (ret, [])) (hs : small ret = true) (hn : noref ret = true) :
    evOpQ E Φ nid { dst, op := .call { callee := .value fo, args := as, argTypes := ts }, type, pos, after, guard } st = st.put dst (import_ nid ret) := by
  simp only [evOpQ, hf, hk, hm, Bool.false_eq_true, if_false, if_true, evRo, hΦ, Option.bind_some, hs, hn]

/-- What is handed back. -/
def finV (v : AV) : Option (AV × List (List AV)) :=
  if noPtr v ∧ nodupB (dedup v.rows) ∧ v.rows.all (fun r => decide (r ∈ dedup v.rows)) then some (rename (dedup v.rows) v, []) else none
theorem finish_tmp {t : Nat} : finish P [] [.tmp t] 0 st = finV (st.get t) := by
  simp [finish, resultsOf, resultOf, boxesUpto, mutSlots, tupOf, finV]
theorem finish_cell {a : Nat} {t : TypeId} : finish P [] [.cell a t] 0 st = (evLoad P st.box t (st.get a)).bind finV := by
  simp only [finish, resultsOf, resultOf, boxesUpto, mutSlots]
  cases evLoad P st.box t (st.get a) with
  | none => rfl
  | some v => simp [tupOf, finV]
theorem finish_two {t u : Nat} : finish P [] [.tmp t, .tmp u] 0 st = finV (.tup [st.get t, st.get u]) := by
  simp [finish, resultsOf, resultOf, boxesUpto, mutSlots, tupOf, finV]
theorem finish_three {t u v : Nat} : finish P [] [.tmp t, .tmp u, .tmp v] 0 st = finV (.tup [st.get t, st.get u, st.get v]) := by
  simp [finish, resultsOf, boxesUpto, mutSlots, tupOf, finV]
theorem finV_bool {b : Bool} : finV (.bool b) = some (.bool b, []) := rfl
theorem finV_int {k : IntKind} {z : Int} : finV (.int k z) = some (.int k z, []) := rfl
theorem finV_str {s : ByteArray} : finV (.str s) = some (.str s, []) := rfl
/-- Cells without names. -/
def plainC : AV → Bool
  | .int _ _ => true
  | .bool _ => true
  | .str _ => true
  | .sl _ _ => true
  | _ => false
theorem plain_facts : ∀ {cs : List AV}, cs.all plainC = true → AV.rowss cs = [] ∧ AV.anys isBad cs = false ∧ ∀ f g h z, AV.mapOs f g h z cs = cs
  | [], _ => ⟨rfl, rfl, fun _ _ _ _ => rfl⟩
  | c :: r, h => by
    simp only [List.all_cons, Bool.and_eq_true] at h
    obtain ⟨h1, h2, h3⟩ := plain_facts h.2
    cases c <;> simp [plainC] at h
    all_goals exact ⟨by simp [AV.rowss, AV.rows, h1], by show (AV.any _ _ || AV.anys _ r) = false; rw [h2]; rfl, fun f g h z => by simp [AV.mapOs, AV.mapO, h3]⟩
theorem finV_agg {cs : List AV} (h : cs.all plainC = true) : finV (.agg cs) = some (.agg cs, []) := by
  obtain ⟨h1, h2, h3⟩ := plain_facts h
  have hp : noPtr (.agg cs) = true := by
    simp only [noPtr, AV.any, h2]
    rfl
  simp [finV, AV.rows, h1, hp, rename, AV.mapO, h3, nodupB, dedup]

theorem lend_int {bx : Nat → Option (List AV)} {m : Nat} {k : IntKind} {z : Int} : lend bx (m + 1) (.int k z) = .int k z := rfl
theorem lend_bool {bx : Nat → Option (List AV)} {m : Nat} {b : Bool} : lend bx (m + 1) (.bool b) = .bool b := rfl
theorem lend_str {bx : Nat → Option (List AV)} {m : Nat} {s : ByteArray} : lend bx (m + 1) (.str s) = .str s := rfl
theorem lend_sl {bx : Nat → Option (List AV)} {m : Nat} {fl : Bool} {xs : List AV} : lend bx (m + 1) (.sl fl xs) = .sl fl xs := rfl
theorem lend_nils {bx : Nat → Option (List AV)} {m : Nat} : lend bx (m + 1) .nils = .sl true [] := rfl
theorem lend_own {bx : Nat → Option (List AV)} {m id e sz : Nat} {fz : Bool} {xs : List AV} : lend bx (m + 1) (.own id fz e sz xs) = .sl true xs := rfl
theorem lend_agg {bx : Nat → Option (List AV)} {m : Nat} {cs : List AV} : lend bx (m + 1) (.agg cs) = .agg (cs.map (lend bx (m + 1))) := by
  show AV.mapO _ _ _ _ _ = AV.agg (cs.map (AV.mapO _ _ _ _))
  rw [AV.mapO, AV.mapOs_eq]
theorem after_bool {args : List AV} {b : Bool} : afterRo nid dst st args (some (.bool b, [])) = st.put dst (.bool b) := rfl
theorem after_int {args : List AV} {k : IntKind} {z : Int} : afterRo nid dst st args (some (.int k z, [])) = st.put dst (.int k z) := rfl
theorem after_str {args : List AV} {s : ByteArray} : afterRo nid dst st args (some (.str s, [])) = st.put dst (.str s) := rfl
def plainS : AV → Bool
  | .int _ _ => true
  | .bool _ => true
  | .str _ => true
  | _ => false
theorem plainS_facts : ∀ {cs : List AV}, cs.all plainS = true → AV.rowss cs = [] ∧ AV.anys isRef cs = false ∧ ∀ f g h z, AV.mapOs f g h z cs = cs
  | [], _ => ⟨rfl, rfl, fun _ _ _ _ => rfl⟩
  | c :: r, h => by
    simp only [List.all_cons, Bool.and_eq_true] at h
    obtain ⟨h1, h2, h3⟩ := plainS_facts h.2
    cases c <;> simp [plainS] at h
    all_goals exact ⟨by simp [AV.rowss, AV.rows, h1], by show (AV.any _ _ || AV.anys _ r) = false; rw [h2]; rfl, fun f g h z => by simp [AV.mapOs, AV.mapO, h3]⟩
theorem after_agg {args cs : List AV} (h : cs.all plainS = true) : afterRo nid dst st args (some (.agg cs, [])) = st.put dst (.agg cs) := by
  obtain ⟨h1, h2, h3⟩ := plainS_facts h
  have hn : noref (.agg cs) = true := by
    simp only [noref, AV.any, h2]
    rfl
  have hs : small (.agg cs) = true := by simp [small, AV.rows, h1]
  simp [afterRo, hn, hs, import_, AV.mapO, h3]
theorem op_callF {g : Nat} {as : Array Operand} {ts : Array TypeId} (hk : E.kill g = false) (hm : (E.md g).all (· == .ro) = true) :
    evOp E Φ nid { dst, op := .call { callee := .value (.func g), args := as, argTypes := ts }, type, pos, after, guard } st =
      afterRo nid dst st (as.toList.map st.val ++ []) (Φ g ((as.toList.map st.val ++ []).map (lend st.box 4)) []) := op_call rfl hk hm
def afterRoQ (nid : Nat) (dst : Option Nat) (st : St) (args : List AV) : Option (AV × List (List AV)) → Option St
  | some (ret, []) => if small ret = true then (if noref ret = true then st.put dst (import_ nid ret) else if args.any (·.any isPtr) = true then none else (match args.flatMap AV.rows with | [] => st.put dst (import_ nid ret) | _ => none)) else none
  | _ => none
theorem opQ_callF {g : Nat} {as : Array Operand} {ts : Array TypeId} (hk : E.kill g = false) (hm : (E.md g).all (· == .ro) = true) :
    evOpQ E Φ nid { dst, op := .call { callee := .value (.func g), args := as, argTypes := ts }, type, pos, after, guard } st =
      afterRoQ nid dst st (as.toList.map st.val ++ []) (Φ g ((as.toList.map st.val ++ []).map (lend st.box 4)) []) := by
  simp only [evOpQ, val_func, hk, hm, Bool.false_eq_true, if_false, if_true, evRo]
  cases Φ g ((as.toList.map st.val ++ []).map (lend st.box 4)) [] with
  | none => rfl
  | some p =>
    obtain ⟨ret, fin⟩ := p
    cases fin with
    | cons _ _ => rfl
    | nil =>
      simp only [Option.bind_some, afterRoQ]
      split
      · split
        · rfl
        · split
          · rfl
          · simp only [Option.bind_some]
            generalize List.flatMap AV.rows (List.map st.val as.toList ++ []) = l
            cases l <;> rfl
      · rfl
theorem afterQ_bool {args : List AV} {b : Bool} : afterRoQ nid dst st args (some (.bool b, [])) = st.put dst (.bool b) := rfl
theorem afterQ_int {args : List AV} {k : IntKind} {z : Int} : afterRoQ nid dst st args (some (.int k z, [])) = st.put dst (.int k z) := rfl
theorem afterQ_agg {args cs : List AV} (h : cs.all plainS = true) : afterRoQ nid dst st args (some (.agg cs, [])) = st.put dst (.agg cs) := by
  obtain ⟨h1, h2, h3⟩ := plainS_facts h
  have hn : noref (.agg cs) = true := by
    simp only [noref, AV.any, h2]
    rfl
  have hs : small (.agg cs) = true := by simp [small, AV.rows, h1]
  simp [afterRoQ, hn, hs, import_, AV.mapO, h3]
theorem bin_quo {t : TypeId} {k : IntKind} {a b : Int} (hb : b ≠ 0) : evBin2 P .quo t (.int k a) (.int k b) = some (.int k (k.wrap (a.tdiv b))) := by simp [evBin2, evBin, evInt, hb]
theorem bin_aeql {t : TypeId} {a b : List AV} : evBin2 P .eql t (.agg a) (.agg b) = (evEq P t a b).bind fun r => some (.bool r) := rfl
theorem bin_aneq {t : TypeId} {a b : List AV} : evBin2 P .neq t (.agg a) (.agg b) = (evEq P t a b).bind fun r => some (.bool (!r)) := rfl
theorem run_succ {ext : Nat → Option (List AV → List (List AV) → Option (AV × List (List AV)))} {k f : Nat} {args : List AV} (he : ext f = none) (ho : E.ok f = true) : run E ext (k + 1) f args [] = body E (run E ext k) k f args [] := by
  simp [run, he, ho]

theorem bin_lss {t : TypeId} {k : IntKind} {a b : Int} : evBin2 P .lss t (.int k a) (.int k b) = some (.bool (decide (a < b))) := by simp [evBin2, evBin, evInt]
theorem bin_leq {t : TypeId} {k : IntKind} {a b : Int} : evBin2 P .leq t (.int k a) (.int k b) = some (.bool (decide (a ≤ b))) := by simp [evBin2, evBin, evInt]
theorem bin_gtr {t : TypeId} {k : IntKind} {a b : Int} : evBin2 P .gtr t (.int k a) (.int k b) = some (.bool (decide (b < a))) := by simp [evBin2, evBin, evInt]
theorem bin_geq {t : TypeId} {k : IntKind} {a b : Int} : evBin2 P .geq t (.int k a) (.int k b) = some (.bool (decide (b ≤ a))) := by simp [evBin2, evBin, evInt]
theorem bin_eql {t : TypeId} {k : IntKind} {a b : Int} : evBin2 P .eql t (.int k a) (.int k b) = some (.bool (a == b)) := by simp [evBin2, evBin, evInt]
theorem bin_neq {t : TypeId} {k : IntKind} {a b : Int} : evBin2 P .neq t (.int k a) (.int k b) = some (.bool (a != b)) := by simp [evBin2, evBin, evInt]
theorem bin_add {t : TypeId} {k : IntKind} {a b : Int} : evBin2 P .add t (.int k a) (.int k b) = some (.int k (k.wrap (a + b))) := by simp [evBin2, evBin, evInt]
theorem bin_sub {t : TypeId} {k : IntKind} {a b : Int} : evBin2 P .sub t (.int k a) (.int k b) = some (.int k (k.wrap (a - b))) := by simp [evBin2, evBin, evInt]
theorem bin_mul {t : TypeId} {k : IntKind} {a b : Int} : evBin2 P .mul t (.int k a) (.int k b) = some (.int k (k.wrap (a * b))) := by simp [evBin2, evBin, evInt]
theorem bin_beql {t : TypeId} {a b : Bool} (h : tagOf P t = .bool) : evBin2 P .eql t (.bool a) (.bool b) = some (.bool (a == b)) := by simp [evBin2, evBin, h]
theorem bin_bneq {t : TypeId} {a b : Bool} (h : tagOf P t = .bool) : evBin2 P .neq t (.bool a) (.bool b) = some (.bool (!(a == b))) := by simp [evBin2, evBin, h]
theorem bin_seql {t : TypeId} {a b : ByteArray} : evBin2 P .eql t (.str a) (.str b) = some (.bool (a.toList == b.toList)) := by simp [evBin2, evBin, evStr]
theorem bin_sneq {t : TypeId} {a b : ByteArray} : evBin2 P .neq t (.str a) (.str b) = some (.bool (!(a.toList == b.toList))) := by simp [evBin2, evBin, evStr]
theorem un_not {b : Bool} : evUn .not (.bool b) = some (.bool (!b)) := rfl
theorem un_neg {k : IntKind} {z : Int} : evUn .neg (.int k z) = some (.int k (k.wrap (0 - z))) := rfl
end
end Go.Proofs.Ytogjbacgkcodmaa.Flat
/-
The evaluator, a step at a time: rows, and what is kept at a loop's head.
-/
set_option linter.unusedVariables false
set_option linter.unusedSimpArgs false
namespace Go.Proofs.Ytogjbacgkcodmaa.Flat
section
variable {E : Env} {Φ : Phi} {n f np nid : Nat} {st st' : St} {P : Program}

theorem len_sl {t : TypeId} {fl : Bool} {xs : List AV} (h : isSliceT P t = true) : evLen P t (.sl fl xs) = some (.int .i64 (xs.length : Nat)) := by simp [evLen, h]
theorem len_own {t : TypeId} {id e sz : Nat} {fz : Bool} {xs : List AV} (h : isSliceT P t = true) : evLen P t (.own id fz e sz xs) = some (.int .i64 (xs.length : Nat)) := by simp [evLen, h]
theorem len_nils {t : TypeId} (h : isSliceT P t = true) : evLen P t .nils = some (.int .i64 0) := by simp [evLen, h]
theorem len_str {t : TypeId} {s : ByteArray} (h : isStringT P t = true) : evLen P t (.str s) = some (.int .i64 (s.size : Nat)) := by simp [evLen, h]

/-- An element that is read. -/
theorem index_sl {t : TypeId} {ti te : TI} {fl : Bool} {xs : List AV} {k : IntKind} {i : Nat} {x : AV} (hs : isSliceT P t = true) (ht : tiOf P t = some ti) (he : tiOf P ti.elem = some te) (hx : xs[i]? = some x) (hl : x.cells.length = te.size) :
    evIndexAddr P t (.sl fl xs) (.int k (i : Nat)) = some (.cptr x.cells) := by
  simp [evIndexAddr, hs, ht, he, hx, hl]
/-- An element of ours. -/
theorem index_own {t : TypeId} {ti te : TI} {id e sz : Nat} {fz : Bool} {xs : List AV} {k : IntKind} {i : Nat} (hs : isSliceT P t = true) (ht : tiOf P t = some ti) (he : tiOf P ti.elem = some te) (hz : sz = te.size) (hi : i < xs.length) :
    evIndexAddr P t (.own id fz e sz xs) (.int k (i : Nat)) = some (.eptr id fz e sz xs i 0) := by
  simp [evIndexAddr, hs, ht, he, hz, hi]

/-- Values without names of ours. -/
def plainV : AV → Bool
  | .undef => true
  | .int _ _ => true
  | .bool _ => true
  | .str _ => true
  | .sl _ _ => true
  | .agg cs => cs.all plainC
  | .clo _ cs => cs.all plainC
  | _ => false
theorem plainC_boxes : ∀ {cs : List AV}, cs.all plainC = true → AV.boxess cs = []
  | [], _ => rfl
  | c :: r, h => by
    simp only [List.all_cons, Bool.and_eq_true] at h
    have := plainC_boxes h.2
    cases c <;> simp [plainC] at h <;> simp [AV.boxess, AV.boxes, this]
theorem plainV_facts {v : AV} (h : plainV v = true) : v.rows = [] ∧ v.boxes = [] ∧ ∀ f g k z, v.mapO f g k z = v := by
  cases v <;> simp only [plainV, Bool.false_eq_true] at h
  case agg cs =>
    obtain ⟨h1, h2, h3⟩ := plain_facts h
    exact ⟨by simp [AV.rows, h1], by simp [AV.boxes, plainC_boxes h], fun f g k z => by simp [AV.mapO, h3]⟩
  case clo f cs =>
    obtain ⟨h1, h2, h3⟩ := plain_facts h
    exact ⟨by simp [AV.rows, h1], by simp [AV.boxes, plainC_boxes h], fun f g k z => by simp [AV.mapO, h3]⟩
  all_goals exact ⟨rfl, rfl, fun _ _ _ _ => rfl⟩
theorem plainVs {vs : List AV} (h : vs.all plainV = true) : AV.rowss vs = [] ∧ AV.boxess vs = [] := by
  induction vs with
  | nil => exact ⟨rfl, rfl⟩
  | cons v r ih =>
    simp only [List.all_cons, Bool.and_eq_true] at h
    obtain ⟨h1, h2⟩ := ih h.2
    obtain ⟨h3, h4, _⟩ := plainV_facts h.1
    exact ⟨by simp [AV.rowss, h1, h3], by simp [AV.boxess, h2, h4]⟩
/-- At a loop's head: nothing of ours is kept. -/
theorem gc_plain {keep : List Nat} (h : (keep.map st.get).all plainV = true) : gc 0 keep st = some { sl := keep.map fun i => (i, st.get i), bx := [], nx := 0, nt := st.nt } := by
  obtain ⟨h1, h2⟩ := plainVs h
  have hb : keptBoxes st 0 keep = [] := by simp [keptBoxes, h2, dedup]
    <;> rfl
  have hg : keptRows st [] keep = [] := by simp [keptRows, h1, dedup]
  have hr : ∀ i ∈ keep, renameB [] [] (st.get i) = st.get i := by
    intro i hi
    exact (plainV_facts (List.all_eq_true.1 h _ (List.mem_map.2 ⟨i, hi, rfl⟩))).2.2 _ _ _ _
  have hall : (keep.map st.get).all (fun v => v.rows.all fun r => decide (r ∈ ([] : List Nat))) = true := by
    refine List.all_eq_true.2 fun v hv => ?_
    rw [(plainV_facts (List.all_eq_true.1 h v hv)).1]
    rfl
  have hm : (keep.map fun i => (i, renameB [] [] (st.get i))) = keep.map fun i => (i, st.get i) := List.map_congr_left fun i hi => by rw [hr i hi]
  unfold gc
  simp only [hb, hg, hm]
  simp only [List.flatMap_nil, List.append_nil, hall]
  rfl
/-- Behind a loop: what a lemma tells of its rounds is all that is asked. -/
theorem loop_then {c y : Code} {id : Nat} {md : List Mode} {rs : List ResultVar} {r : Option (AV × List (List AV))} {R : Exit → St → Prop} {s1 : St} (hg : gc np (E.keep f (firstRegion c)) st = some s1)
    (h : ∀ st, gc np (E.keep f (firstRegion c)) st = some s1 → ∃ e st', iter (ev E Φ n f np c) (gc np (E.keep f (firstRegion c))) n st = some (e, st') ∧ R e st')
    (hr : ∀ e st', R e st' → thenEnd P md rs 0 (thenEv E Φ n f np y (outOf id (some (e, st')))) = r) :
    thenEnd P md rs 0 (thenEv E Φ n f np y (outOf id (ev E Φ n f np (.loop c) st))) = r := by
  obtain ⟨e, st', h1, h2⟩ := h st hg
  rw [ev_loop, h1]
  exact hr e st' h2
end
end Go.Proofs.Ytogjbacgkcodmaa.Flat
/-
The evaluator, a step at a time: branches that are not decided, and loops over a row.
-/
set_option linter.unusedVariables false
set_option linter.unusedSimpArgs false
namespace Go.Proofs.Ytogjbacgkcodmaa.Flat
section
variable {E : Env} {Φ : Phi} {n f np nid : Nat} {o : Oper} {st st' : St} {P : Program}
theorem ifEv_bool {x y : Code} {b : Bool} : ifEv E Φ n f np x y st (.bool b) = match b with | true => ev E Φ n f np x st | false => ev E Φ n f np y st := by cases b <;> rfl
theorem gate_bool {b : Bool} : gate E Φ nid o st (some b) = match b with | true => evOp E Φ nid o st | false => st.put o.dst (.tup []) := by cases b <;> rfl
theorem gateQ_bool {b : Bool} : gateQ E Φ nid o st (some b) = match b with | true => evOpQ E Φ nid o st | false => st.put o.dst (.tup []) := by cases b <;> rfl
theorem pick_bool {b : Bool} {x y : AV} : evPick x y (.bool b) = some (match b with | true => x | false => y) := by cases b <;> rfl
theorem index_slx {t : TypeId} {fl : Bool} {xs : List AV} {k : IntKind} {z : Int} :
    evIndexAddr P t (.sl fl xs) (.int k z) = if isSliceT P t = true then (tiOf P t).bind fun ti => (tiOf P ti.elem).bind fun te => if 0 ≤ z then (xs[z.toNat]?).bind fun x => if x.cells.length = te.size then some (.cptr x.cells) else none else none else none := rfl
theorem index_ownx {t : TypeId} {id e sz : Nat} {fz : Bool} {xs : List AV} {k : IntKind} {z : Int} :
    evIndexAddr P t (.own id fz e sz xs) (.int k z) = if isSliceT P t = true then (tiOf P t).bind fun ti => (tiOf P ti.elem).bind fun te => if sz = te.size ∧ 0 ≤ z ∧ z < xs.length then some (.eptr id fz e sz xs z.toNat 0) else none else none := rfl

theorem makeSlice_own {t nid : Nat} {ti te : TI} {n : Nat} {k k' : IntKind} {z : AV} {dst : Option Nat} (hs : isSliceT P t = true) (ht : tiOf P t = some ti) (he : tiOf P ti.elem = some te) (hz : zeroElem te = some z) (h1 : te.bytes * n ≤ 281474976710656) (h2 : n ≤ 9223372036854775807) (h3 : 0 < te.size) :
    evMakeSlice P t (.int k n) (.int k' n) nid dst st = st.put dst (.own nid false ti.elem te.size (List.replicate n z)) := by
  simp [evMakeSlice, hs, ht, he, hz, h1, h2, h3]
theorem freeze_nil : St.freeze [] st = st := rfl
theorem freeze_cons {i : Nat} {r : List Nat} : St.freeze (i :: r) st = st.mapO (fun id fz e sz xs => .own id (fz || decide (id ∈ i :: r)) e sz xs) .ptr (fun id fz e sz xs k off => .eptr id (fz || decide (id ∈ i :: r)) e sz xs k off) := rfl
theorem scrub_nil : St.scrub [] st = st := rfl
theorem scrub_cons {i : Nat} {r : List Nat} : St.scrub (i :: r) st = st.mapO (fun id fz e sz xs => if id ∈ i :: r then .undef else .own id fz e sz xs) .ptr (fun id fz e sz xs k off => if id ∈ i :: r then .undef else .eptr id fz e sz xs k off) := rfl
theorem mapO_mk {f : Nat → Bool → Nat → Nat → List AV → AV} {g : Nat → Nat → AV} {h : Nat → Bool → Nat → Nat → List AV → Nat → Nat → AV} {sl : List (Nat × AV)} {bx : List (Nat × List AV)} {nx nt : Nat} :
    St.mapO f g h { sl := sl, bx := bx, nx := nx, nt := nt } = { sl := sl.map fun p => (p.1, p.2.mapO f g h (fun _ => .nils)), bx := bx.map fun p => (p.1, AV.mapOs f g h (fun _ => .nils) p.2), nx := nx, nt := nt } := rfl
/-- A call of a function value. -/
def callVal (E : Env) (Φ : Phi) (nid : Nat) (dst : Option Nat) (st : St) (args : List AV) : AV → Option St
  | .clo g caps => afterRo nid dst st (args ++ caps) (Φ g ((args ++ caps).map (lend st.box 4)) [])
  | _ => none
def callValQ (E : Env) (Φ : Phi) (nid : Nat) (dst : Option Nat) (st : St) (args : List AV) : AV → Option St
  | .clo g caps => afterRoQ nid dst st (args ++ caps) (Φ g ((args ++ caps).map (lend st.box 4)) [])
  | _ => none
theorem callVal_clo {dst : Option Nat} {args caps : List AV} {g : Nat} : callVal E Φ nid dst st args (.clo g caps) = afterRo nid dst st (args ++ caps) (Φ g ((args ++ caps).map (lend st.box 4)) []) := rfl
theorem callValQ_clo {dst : Option Nat} {args caps : List AV} {g : Nat} : callValQ E Φ nid dst st args (.clo g caps) = afterRoQ nid dst st (args ++ caps) (Φ g ((args ++ caps).map (lend st.box 4)) []) := rfl
theorem op_callT {dst : Option Nat} {t : Nat} {as : Array Operand} {ts : Array TypeId} {type : TypeId} {pos : String} {after : Array Edge} {guard : Option (Nat × Bool)} (hk : ∀ g, E.kill g = false) (hm : ∀ g, (E.md g).all (· == .ro) = true) :
    evOp E Φ nid { dst, op := .call { callee := .value (.tmp t), args := as, argTypes := ts }, type, pos, after, guard } st = callVal E Φ nid dst st (as.toList.map st.val) (st.val (.tmp t)) := by
  cases h : st.val (.tmp t) with
  | clo g caps => exact op_call h (hk g) (hm g)
  | _ => simp only [evOp, h, callVal]
theorem opQ_callT {dst : Option Nat} {t : Nat} {as : Array Operand} {ts : Array TypeId} {type : TypeId} {pos : String} {after : Array Edge} {guard : Option (Nat × Bool)} (hk : ∀ g, E.kill g = false) (hm : ∀ g, (E.md g).all (· == .ro) = true) :
    evOpQ E Φ nid { dst, op := .call { callee := .value (.tmp t), args := as, argTypes := ts }, type, pos, after, guard } st = callValQ E Φ nid dst st (as.toList.map st.val) (st.val (.tmp t)) := by
  cases h : st.val (.tmp t) with
  | clo g caps =>
    simp only [evOpQ, h, hk, hm, Bool.false_eq_true, if_false, if_true, evRo, callValQ]
    cases Φ g ((as.toList.map st.val ++ caps).map (lend st.box 4)) [] with
    | none => rfl
    | some p =>
      obtain ⟨ret, fin⟩ := p
      cases fin with
      | cons _ _ => rfl
      | nil =>
        simp only [Option.bind_some, afterRoQ]
        split
        · split
          · rfl
          · split
            · rfl
            · simp only [Option.bind_some]
              generalize List.flatMap AV.rows (List.map st.val as.toList ++ caps) = l
              cases l <;> rfl
        · rfl
  | _ => simp only [evOpQ, h, callValQ]
theorem lend_clo {bx : Nat → Option (List AV)} {m g : Nat} {cs : List AV} : lend bx (m + 1) (.clo g cs) = .clo g (cs.map (lend bx (m + 1))) := by
  show AV.mapO _ _ _ _ _ = AV.clo g (cs.map (AV.mapO _ _ _ _))
  rw [AV.mapO, AV.mapOs_eq]
theorem lend_ptr {bx : Nat → Option (List AV)} {m id off : Nat} : lend bx (m + 1) (.ptr id off) = match bx id with | some cs => .cptr ((cs.map (lend bx m)).drop off) | none => .undef := rfl
theorem lend_cptr {bx : Nat → Option (List AV)} {m : Nat} {cs : List AV} : lend bx (m + 1) (.cptr cs) = .cptr cs := rfl
/-- What is read, as it stands. -/
def plainK : AV → Bool
  | .int _ _ => true
  | .bool _ => true
  | .str _ => true
  | .sl _ _ => true
  | .cptr _ => true
  | _ => false
structure Plain (cs : List AV) : Prop where
  rows : AV.rowss cs = []
  boxes : AV.boxess cs = []
  map : ∀ f g h z, AV.mapOs f g h z cs = cs
  lend : ∀ bx m, cs.map (lend bx (m + 1)) = cs
theorem plain_of : ∀ {cs : List AV}, cs.all plainK = true → Plain cs
  | [], _ => ⟨rfl, rfl, fun _ _ _ _ => rfl, fun _ _ => rfl⟩
  | c :: r, h => by
    simp only [List.all_cons, Bool.and_eq_true] at h
    have ih := plain_of h.2
    have h1 : c.rows = [] ∧ c.boxes = [] ∧ (∀ f g h z, c.mapO f g h z = c) ∧ ∀ bx m, Flat.lend bx (m + 1) c = c := by
      cases c <;> simp [plainK] at h <;> exact ⟨rfl, rfl, fun _ _ _ _ => rfl, fun _ _ => rfl⟩
    exact ⟨by simp [AV.rowss, h1.1, ih.rows], by simp [AV.boxess, h1.2.1, ih.boxes], fun f g h z => by simp [AV.mapOs, h1.2.2.1, ih.map], fun bx m => by simp only [List.map_cons, h1.2.2.2, ih.lend]⟩
theorem plain_nil : Plain [] := ⟨rfl, rfl, fun _ _ _ _ => rfl, fun _ _ => rfl⟩

def evCut (P : Program) (t : TypeId) (lo hi : Option AV) : AV → Option AV
  | .str s => if isStringT P t = true then evCutStr s lo hi else none
  | .sl fl xs => if isSliceT P t = true then (tiOf P t).bind fun ti => (tiOf P ti.elem).bind fun te => evCutRow te.size fl xs lo hi else none
  | _ => none
theorem op_slice {t : TypeId} {x : Operand} {lo hi : Option Operand} {dst : Option Nat} {type : TypeId} {pos : String} {after : Array Edge} {guard : Option (Nat × Bool)} :
    evOp E Φ nid { dst, op := .slice t x lo hi none, type, pos, after, guard } st = thenPut st dst (evCut E.P t (optAV st.val lo) (optAV st.val hi) (st.val x)) := by
  have h : evFree E Φ st.box nid st.val (.slice t x lo hi none) = (evCut E.P t (optAV st.val lo) (optAV st.val hi) (st.val x)).map (·, []) := by
    simp only [evFree, evCut]
    cases st.val x with
    | str s => simp only; split <;> simp
    | sl fl xs =>
      simp only
      split
      · cases tiOf E.P t with
        | none => rfl
        | some ti =>
          simp only [Option.bind_some]
          cases tiOf E.P ti.elem <;> rfl
      · rfl
    | _ => rfl
  show (evFree E Φ st.box nid st.val (.slice t x lo hi none)).bind (fun (v, _) => st.put dst v) = _
  rw [h]
  simp only [thenPut]
  cases evCut E.P t (optAV st.val lo) (optAV st.val hi) (st.val x) <;> rfl
theorem cut_sl {t : TypeId} {fl : Bool} {xs : List AV} {lo hi : Option AV} : evCut P t lo hi (.sl fl xs) = if isSliceT P t = true then (tiOf P t).bind fun ti => (tiOf P ti.elem).bind fun te => evCutRow te.size fl xs lo hi else none := rfl
theorem cut_str {t : TypeId} {s : ByteArray} {lo hi : Option AV} : evCut P t lo hi (.str s) = if isStringT P t = true then evCutStr s lo hi else none := rfl
theorem opt_some {val : Operand → AV} {x : Operand} : optAV val (some x) = some (val x) := rfl
theorem opt_none {val : Operand → AV} : optAV val none = none := rfl
theorem natz : ((0 : Nat) : Int) = 0 := rfl
def evMin (x y : AV) : Option AV :=
  match x, y with
  | .int k a, .int k' b => if k = k' then some (.int k (if b < a then b else a)) else none
  | _, _ => none
def evMax (x y : AV) : Option AV :=
  match x, y with
  | .int k a, .int k' b => if k = k' then some (.int k (if b > a then b else a)) else none
  | _, _ => none
theorem min_int {k : IntKind} {a b : Int} : evMin (.int k a) (.int k b) = some (.int k (if b < a then b else a)) := by simp [evMin]
theorem max_int {k : IntKind} {a b : Int} : evMax (.int k a) (.int k b) = some (.int k (if b > a then b else a)) := by simp [evMax]
theorem op_min {x y : Operand} {ts : Array TypeId} {dst : Option Nat} {type : TypeId} {pos : String} {after : Array Edge} {guard : Option (Nat × Bool)} :
    evOp E Φ nid { dst, op := .call { callee := .builtin .min, args := #[x, y], argTypes := ts }, type, pos, after, guard } st = thenPut st dst (evMin (st.val x) (st.val y)) := by
  simp only [evOp, evFree, thenPut, evMin]
  simp only [List.map_cons, List.map_nil]
  cases st.val x <;> cases st.val y <;> first | rfl | (simp only; split <;> rfl)
theorem op_max {x y : Operand} {ts : Array TypeId} {dst : Option Nat} {type : TypeId} {pos : String} {after : Array Edge} {guard : Option (Nat × Bool)} :
    evOp E Φ nid { dst, op := .call { callee := .builtin .max, args := #[x, y], argTypes := ts }, type, pos, after, guard } st = thenPut st dst (evMax (st.val x) (st.val y)) := by
  simp only [evOp, evFree, thenPut, evMax]
  simp only [List.map_cons, List.map_nil]
  cases st.val x <;> cases st.val y <;> first | rfl | (simp only; split <;> rfl)
theorem finish_cell_tmp {a u : Nat} {t : TypeId} : finish P [] [.cell a t, .tmp u] 0 st = (evLoad P st.box t (st.get a)).bind fun v => finV (.tup [v, st.get u]) := by
  simp only [finish, resultsOf, resultOf, boxesUpto, mutSlots]
  cases evLoad P st.box t (st.get a) with
  | none => rfl
  | some v => simp [tupOf, finV]
/-- What is known of an outcome. -/
def Leaf (x : Option (Exit × St)) (Q : Exit → St → Prop) : Prop :=
  match x with
  | some (e, st) => Q e st
  | none => False
theorem leaf_some {e : Exit} {Q : Exit → St → Prop} : Leaf (some (e, st)) Q = Q e st := rfl
def isNormal : Exit → Bool
  | .normal => true
  | _ => false
/-- A loop over a row, its index, and what is carried on: a result at once, or on to the next element. -/
def loopL {α β γ : Type} (step : Nat → α → β → Sum γ β) (fin : β → γ) : Nat → List α → β → γ
  | _, [], b => fin b
  | i, x :: r, b => match step i x b with
    | .inl g => g
    | .inr b' => loopL step fin (i + 1) r b'
theorem loop_list {α β γ : Type} {c : Code} {Hd : St → Option St} (Q : γ → Option (Exit × St) → Prop) (s : List α) (step : Nat → α → β → Sum γ β) (fin : β → γ) (H : Nat → β → St) (I : Nat → β → Prop) (b0 : β)
    (hnil : ∀ b, I s.length b → Leaf (ev E Φ n f np c (H s.length b)) (fun e st => isNormal e = false ∧ Q (fin b) (some (e, st))))
    (hcons : ∀ pre x r b, s = pre ++ x :: r → I pre.length b → Leaf (ev E Φ n f np c (H pre.length b)) (fun e st => match step pre.length x b with
      | .inl g => isNormal e = false ∧ Q g (some (e, st))
      | .inr b' => e = .normal ∧ I (pre.length + 1) b' ∧ Hd st = some (H (pre.length + 1) b')))
    {K : Nat} (hK : s.length < K) {st : St} (hI : I 0 b0) (h0 : Hd st = some (H 0 b0)) : Q (loopL step fin 0 s b0) (iter (ev E Φ n f np c) Hd K st) := by
  have main : ∀ (r pre : List α) (b : β) (K : Nat) (st : St), s = pre ++ r → r.length < K → I pre.length b → Hd st = some (H pre.length b) → Q (loopL step fin pre.length r b) (iter (ev E Φ n f np c) Hd K st) := by
    intro r
    induction r with
    | nil =>
      intro pre b K st hs hK hI h0
      obtain ⟨K, rfl⟩ : ∃ j, K = j + 1 := ⟨K - 1, by omega⟩
      have hl : pre.length = s.length := by rw [hs]; simp
      rw [iter_succ h0]
      have h := hnil b (hl ▸ hI)
      rw [← hl] at h
      cases he : ev E Φ n f np c (H pre.length b) with
      | none => rw [he] at h; exact h.elim
      | some p =>
        obtain ⟨e, st'⟩ := p
        rw [he] at h
        obtain ⟨h1, h2⟩ := h
        cases e <;> first | (simp [isNormal] at h1; done) | exact h2
    | cons x r ih =>
      intro pre b K st hs hK hI h0
      obtain ⟨K, rfl⟩ : ∃ j, K = j + 1 := ⟨K - 1, by omega⟩
      rw [iter_succ h0]
      have h := hcons pre x r b hs hI
      cases he : ev E Φ n f np c (H pre.length b) with
      | none => rw [he] at h; exact h.elim
      | some p =>
        obtain ⟨e, st'⟩ := p
        rw [he] at h
        simp only [Leaf] at h
        simp only [loopL]
        cases hg : step pre.length x b with
        | inl g =>
          rw [hg] at h
          obtain ⟨h1, h2⟩ := h
          cases e <;> first | (simp [isNormal] at h1; done) | exact h2
        | inr b' =>
          rw [hg] at h
          obtain ⟨rfl, h1, h2⟩ := h
          have := ih (pre ++ [x]) b' K st' (by rw [hs]; simp) (by simp at hK; omega) (by simpa using h1) (by simpa using h2)
          rw [thenIter_normal]
          simpa using this
  exact main s [] b0 K st rfl hK hI h0
/-- A loop that goes on while there is something next. -/
theorem loop_while {β γ : Type} {c : Code} {Hd : St → Option St} (Q : γ → Option (Exit × St) → Prop) (nxt : β → Option β) (g : β → γ) (H : β → St) (I : β → Prop) (m : β → Nat) (b0 : β)
    (hstep : ∀ b, I b → Leaf (ev E Φ n f np c (H b)) (fun e st => match nxt b with
      | none => isNormal e = false ∧ Q (g b) (some (e, st))
      | some b' => e = .normal ∧ Hd st = some (H b')))
    (hn : ∀ b b', I b → nxt b = some b' → I b' ∧ m b' < m b ∧ g b' = g b)
    {K : Nat} (hK : m b0 < K) {st : St} (hI : I b0) (h0 : Hd st = some (H b0)) : Q (g b0) (iter (ev E Φ n f np c) Hd K st) := by
  induction K generalizing b0 st with
  | zero => omega
  | succ K ih =>
    rw [iter_succ h0]
    have h := hstep b0 hI
    cases he : ev E Φ n f np c (H b0) with
    | none => rw [he] at h; exact h.elim
    | some p =>
      obtain ⟨e, st'⟩ := p
      rw [he] at h
      simp only [Leaf] at h
      cases hx : nxt b0 with
      | none =>
        rw [hx] at h
        obtain ⟨h1, h2⟩ := h
        cases e <;> first | (simp [isNormal] at h1; done) | exact h2
      | some b' =>
        rw [hx] at h
        obtain ⟨rfl, h2⟩ := h
        obtain ⟨h3, h4, h5⟩ := hn b0 b' hI hx
        rw [thenIter_normal, ← h5]
        exact ih b' (by omega) h3 h2
end
end Go.Proofs.Ytogjbacgkcodmaa.Flat
