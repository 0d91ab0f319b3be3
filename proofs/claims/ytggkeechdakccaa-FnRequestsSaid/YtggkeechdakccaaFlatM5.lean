/-
The evaluator, a step at a time: rules to reckon with.
-/
import Derived.Test.YtggkeechdakccaaFlatM4
set_option linter.unusedVariables false
set_option linter.unusedSimpArgs false
namespace Go.Proofs.Ytggkeechdakccaa.Flat
section
variable {E : Env} {Φ : Phi} {n f np nid : Nat} {all : List Oper} {o : Oper} {st st' : St}
def gate (E : Env) (Φ : Phi) (nid : Nat) (o : Oper) (st : St) : Option Bool → Option St
  | some t => if t = true then evOp E Φ nid o st else st.put o.dst (.tup [])
  | none => none
def gateQ (E : Env) (Φ : Phi) (nid : Nat) (o : Oper) (st : St) : Option Bool → Option St
  | some t => if t = true then evOpQ E Φ nid o st else st.put o.dst (.tup [])
  | none => none
def gateP (E : Env) (Φ : Phi) (nid : Nat) (o : Oper) (st : St) : Option Bool → Option St
  | some t => if t = true then evOpP E Φ nid o st else st.put o.dst (.tup [])
  | none => none
def gateS (E : Env) (Φ : Phi) (nid : Nat) (o : Oper) (st : St) (ld l : List Nat) : Option Bool → Option St
  | some t => if t = true then evOpS E Φ nid o st ld l else st.put o.dst (.tup [])
  | none => none
def gateF (E : Env) (Φ : Phi) (o : Oper) (st : St) : Option Bool → Option St
  | some t => if t = true then evOpF E Φ o st else st.put o.dst (.tup [])
  | none => none
def gateT (E : Env) (Φ : Phi) (nid : Nat) (o : Oper) (st : St) (b : Bool) : Option Bool → Option St
  | some t => if t = true then (if b = true then evOpQ E Φ nid o st else none) else st.put o.dst (.tup [])
  | none => none
def thenOps (E : Env) (Φ : Phi) (all : List Oper) (nid : Nat) (r : List Oper) (x : Option St) : Option St := x.bind (evOps E Φ all nid r)
def thenPlan (E : Env) (Φ : Phi) (all : List Oper) (r : List (Qt × Nat)) (nid : Nat) (x : Option St) : Option St := x.bind (evPlan E Φ all r nid)
def thenNx (n : Nat) (x : Option St) : Option (Exit × St) := x.map fun st => (.normal, { st with nx := n })
def thenEv (E : Env) (Φ : Phi) (n f np : Nat) (c : Code) (x : Option (Exit × St)) : Option (Exit × St) := x.bind fun (e, st) => match e with
  | .normal => ev E Φ n f np c st
  | e => some (e, st)
def outOf (id : Nat) (x : Option (Exit × St)) : Option (Exit × St) := x.map fun (e, st) => match e with
  | .exit j => (if j = id then .normal else .exit j, st)
  | e => (e, st)
def ifEv (E : Env) (Φ : Phi) (n f np : Nat) (x y : Code) (st : St) : AV → Option (Exit × St)
  | .bool b => if b = true then ev E Φ n f np x st else ev E Φ n f np y st
  | _ => none
def thenEnd (P : Program) (md : List Mode) (rs : List ResultVar) (np : Nat) (x : Option (Exit × St)) : Option (AV × List (List AV)) := x.bind fun (e, st) => match e with
  | .normal => finish P md rs np st
  | .ret => finish P md rs np st
  | _ => none
def thenIter (E : Env) (Φ : Phi) (n f np m : Nat) (c : Code) (H : St → Option St) (x : Option (Exit × St)) : Option (Exit × St) := x.bind fun (e, st') => match e with
  | .normal => iter (ev E Φ n f np c) H m st'
  | e => some (e, st')
theorem evOps_nil : evOps E Φ all nid [] st = some st := rfl
theorem evOps_cons {r : List Oper} : evOps E Φ all nid (o :: r) st = thenOps E Φ all (nid + 8) r (gate E Φ nid o st (wanted all o st)) := by
  simp only [evOps, thenOps]
  cases h : wanted all o st with
  | none => rfl
  | some t => cases t <;> rfl
theorem thenOps_some {r : List Oper} : thenOps E Φ all nid r (some st) = evOps E Φ all nid r st := rfl
theorem gate_some {t : Bool} : gate E Φ nid o st (some t) = if t = true then evOp E Φ nid o st else st.put o.dst (.tup []) := rfl
theorem gateQ_some {t : Bool} : gateQ E Φ nid o st (some t) = if t = true then evOpQ E Φ nid o st else st.put o.dst (.tup []) := rfl
theorem evPlan_nil : evPlan E Φ all [] nid st = some st := rfl
def gateAt (E : Env) (Φ : Phi) (nid : Nat) (all : List Oper) (st : St) (q : Qt) : Option Oper → Option St
  | some o => match q with
    | .no => gateP E Φ nid o st (wanted all o st)
    | .quiet => gateQ E Φ nid o st (wanted all o st)
    | .soft ld l => gateS E Φ nid o st ld l (wanted all o st)
    | .flo => gateF E Φ o st (wanted all o st)
    | .still => gateT E Φ nid o st (stillB E o st) (wanted all o st)
    | .frz _ => (wanted all o st).bind fun t => if t = true then none else st.put o.dst (.tup [])
  | none => none
theorem gateAt_no : gateAt E Φ nid all st .no (some o) = gateP E Φ nid o st (wanted all o st) := rfl
theorem gateAt_quiet : gateAt E Φ nid all st .quiet (some o) = gateQ E Φ nid o st (wanted all o st) := rfl
theorem gateAt_soft {ld l : List Nat} : gateAt E Φ nid all st (.soft ld l) (some o) = gateS E Φ nid o st ld l (wanted all o st) := rfl
theorem gateAt_still : gateAt E Φ nid all st .still (some o) = gateT E Φ nid o st (stillB E o st) (wanted all o st) := rfl
theorem gateT_true {t : Option Bool} : gateT E Φ nid o st true t = gateQ E Φ nid o st t := by cases t <;> rfl
theorem gateS_some {t : Bool} {ld l : List Nat} : gateS E Φ nid o st ld l (some t) = if t = true then evOpS E Φ nid o st ld l else st.put o.dst (.tup []) := rfl
theorem gateP_some {t : Bool} : gateP E Φ nid o st (some t) = if t = true then evOpP E Φ nid o st else st.put o.dst (.tup []) := rfl
theorem evPlan_cons {i : Nat} {q : Qt} {r : List (Qt × Nat)} : evPlan E Φ all ((q, i) :: r) nid st = thenPlan E Φ all r (nid + 8) (gateAt E Φ nid all st q all[i]?) := by
  simp only [evPlan, thenPlan]
  cases all[i]? with
  | none => rfl
  | some o =>
    simp only [Option.bind_some, gateAt]
    cases wanted all o st with
    | none => cases q <;> rfl
    | some t => cases t <;> cases q <;> rfl
theorem thenPlan_some {r : List (Qt × Nat)} : thenPlan E Φ all r nid (some st) = evPlan E Φ all r nid st := rfl
theorem thenNx_some : thenNx n (some st) = some (.normal, { st with nx := n }) := rfl
theorem ev_region {id : Nat} {l : List Oper} : ev E Φ n f np (.region id l.toArray false) st = thenNx (st.nx + 8 * l.length) (evOps E Φ l st.nx l st) := by
  simp only [ev, evRegion, thenNx]
  cases evOps E Φ l st.nx l st <;> rfl
theorem ev_regionD {id : Nat} {l : List Oper} : ev E Φ n f np (.region id l.toArray true) st = thenNx (st.nx + 8 * (E.plan f id).length) (runPlan E Φ l (E.plan f id) st) := by
  simp only [ev, evRegion, thenNx]
  cases runPlan E Φ l (E.plan f id) st <;> rfl
def thenRun (E : Env) (Φ : Phi) (l : List Oper) (p : List (Qt × Nat)) (x : Option St) : Option St := x.bind fun st => evPlan E Φ l p st.nx st
theorem thenRun_some {l : List Oper} {p : List (Qt × Nat)} : thenRun E Φ l p (some st) = evPlan E Φ l p st.nx st := rfl
theorem runPlan_no {l : List Oper} {i : Nat} {r : List (Qt × Nat)} : runPlan E Φ l ((.no, i) :: r) st = evPlan E Φ l ((.no, i) :: r) st.nx st := rfl
theorem runPlan_quiet {l : List Oper} {i : Nat} {r : List (Qt × Nat)} : runPlan E Φ l ((.quiet, i) :: r) st = evPlan E Φ l ((.quiet, i) :: r) st.nx st := rfl
theorem runPlan_soft {l : List Oper} {i : Nat} {a b : List Nat} {r : List (Qt × Nat)} : runPlan E Φ l ((.soft a b, i) :: r) st = evPlan E Φ l ((.soft a b, i) :: r) st.nx st := rfl
theorem runPlan_still {l : List Oper} {i : Nat} {r : List (Qt × Nat)} : runPlan E Φ l ((.still, i) :: r) st = evPlan E Φ l ((.still, i) :: r) st.nx st := rfl
theorem runPlan_nil {l : List Oper} : runPlan E Φ l [] st = some st := rfl
theorem runPlan_frz {l : List Oper} {i t : Nat} {r : List (Qt × Nat)} : runPlan E Φ l ((.frz t, i) :: r) st = thenRun E Φ l ((.no, i) :: r) (st.openB t) := rfl
theorem ev_skip : ev E Φ n f np .skip st = some (.normal, st) := rfl
theorem ev_ret : ev E Φ n f np .ret st = some (.ret, st) := rfl
theorem ev_exit {id : Nat} : ev E Φ n f np (.exit id) st = some (.exit id, st) := rfl
theorem ev_seq {x y : Code} : ev E Φ n f np (.seq x y) st = thenEv E Φ n f np y (ev E Φ n f np x st) := by
  simp only [ev, thenEv]
  rfl
theorem thenEv_normal {y : Code} : thenEv E Φ n f np y (some (.normal, st)) = ev E Φ n f np y st := rfl
theorem thenEv_ret {y : Code} : thenEv E Φ n f np y (some (.ret, st)) = some (.ret, st) := rfl
theorem thenEv_exit {y : Code} {j : Nat} : thenEv E Φ n f np y (some (.exit j, st)) = some (.exit j, st) := rfl
theorem ev_cond {c : Operand} {x y : Code} : ev E Φ n f np (.cond c x y) st = ifEv E Φ n f np x y st (st.val c) := by
  simp only [ev]
  cases st.val c <;> rfl
theorem ifEv_true {x y : Code} : ifEv E Φ n f np x y st (.bool true) = ev E Φ n f np x st := rfl
theorem ifEv_false {x y : Code} : ifEv E Φ n f np x y st (.bool false) = ev E Φ n f np y st := rfl
theorem ev_block {id : Nat} {c : Code} : ev E Φ n f np (.block id c) st = outOf id (ev E Φ n f np c st) := rfl
theorem outOf_normal {id : Nat} : outOf id (some (.normal, st)) = some (.normal, st) := rfl
theorem outOf_ret {id : Nat} : outOf id (some (.ret, st)) = some (.ret, st) := rfl
theorem outOf_exit {id : Nat} : outOf id (some (.exit id, st)) = some (.normal, st) := by simp [outOf]
theorem ev_loop {c : Code} : ev E Φ n f np (.loop c) st = iter (ev E Φ n f np c) (gc np (E.keep f (firstRegion c))) n st := rfl
theorem iter_succ {c : Code} {m : Nat} {H : St → Option St} {s1 : St} (h : H st = some s1) : iter (ev E Φ n f np c) H (m + 1) st = thenIter E Φ n f np m c H (ev E Φ n f np c s1) := by
  simp only [iter, h, Option.bind_some, thenIter]
  rfl
theorem thenIter_normal {c : Code} {m : Nat} {H : St → Option St} : thenIter E Φ n f np m c H (some (.normal, st)) = iter (ev E Φ n f np c) H m st := rfl
theorem body_eq {fn : Func} {c : Code} {args : List AV} {ios : List (List AV)} {sl : List (Nat × AV)} {bx : List (Nat × List AV)} {nt np : Nat} {rs : List ResultVar} {tr : Bool} {md : List Mode} (h : E.P.funcs[f]? = some fn) (hc : fn.body = some c) (hs : numbered 0 args = sl) (hnt : max fn.ntmps args.length = nt) (hr : fn.results.toList = rs) (ht : E.tree f = tr)
    (hmd : E.md f = md) (hbx : numbered 0 ios = bx) (hnp : ios.length = np) :
    body E Φ n f args ios = thenEnd E.P md rs np (ev E Φ n f np c { sl := sl, bx := bx, nx := 16, nt := nt, tree := tr }) := by
  subst hs; subst hnt; subst hr; subst ht; subst hmd; subst hbx; subst hnp
  simp only [body, h, hc, Option.bind_some, thenEnd]
  rfl
theorem thenEnd_normal {P : Program} {md : List Mode} {rs : List ResultVar} : thenEnd P md rs np (some (.normal, st)) = finish P md rs np st := rfl
theorem thenEnd_ret {P : Program} {md : List Mode} {rs : List ResultVar} : thenEnd P md rs np (some (.ret, st)) = finish P md rs np st := rfl
theorem put_none {v : AV} : st.put none v = some st := rfl
end
end Go.Proofs.Ytggkeechdakccaa.Flat
/-
The evaluator, a step at a time: the operations.
-/
namespace Go.Proofs.Ytggkeechdakccaa.Flat
section
variable {E : Env} {Φ : Phi} {n f np nid : Nat} {all : List Oper} {st st' : St} {dst : Option Nat} {type : TypeId} {pos : String} {after : Array Edge} {guard : Option (Nat × Bool)} {P : Program}
def thenPut (st : St) (dst : Option Nat) (x : Option AV) : Option St := x.bind (st.put dst)
theorem thenPut_some {v : AV} : thenPut st dst (some v) = st.put dst v := rfl
def lookD (i : Nat) : List (Nat × AV) → AV
  | [] => .undef
  | (j, v) :: r => if i = j then v else lookD i r
theorem get_mk {sl : List (Nat × AV)} {bx : List (Nat × List AV)} {nx nt i : Nat} {tr : Bool} : St.get { sl := sl, bx := bx, nx := nx, nt := nt, tree := tr } i = lookD i sl := by
  simp only [St.get]
  induction sl with
  | nil => rfl
  | cons p r ih =>
    obtain ⟨j, v⟩ := p
    simp only [look, lookD]
    split
    · rfl
    · exact ih
theorem lookD_cons {i j : Nat} {v : AV} {r : List (Nat × AV)} : lookD i ((j, v) :: r) = if i = j then v else lookD i r := rfl
theorem look_c {i j : Nat} {v : List AV} {r : List (Nat × List AV)} : look i ((j, v) :: r) = if i = j then some v else look i r := rfl
theorem box_mk {sl : List (Nat × AV)} {bx : List (Nat × List AV)} {nx nt i : Nat} {tr : Bool} : St.box { sl := sl, bx := bx, nx := nx, nt := nt, tree := tr } i = look i bx := rfl
theorem setBox_mk {sl : List (Nat × AV)} {bx : List (Nat × List AV)} {nx nt i : Nat} {tr : Bool} {cs : List AV} : St.setBox { sl := sl, bx := bx, nx := nx, nt := nt, tree := tr } i cs = { sl := sl, bx := (i, cs) :: bx, nx := nx, nt := nt, tree := tr } := rfl
theorem put_mk {sl : List (Nat × AV)} {bx : List (Nat × List AV)} {nx nt i : Nat} {tr : Bool} {v : AV} : St.put { sl := sl, bx := bx, nx := nx, nt := nt, tree := tr } (some i) v = if i < nt then some { sl := (i, v) :: sl, bx := bx, nx := nx, nt := nt, tree := tr } else none := rfl
theorem val_tmp {t : Nat} : st.val (.tmp t) = st.get t := rfl
theorem val_func {g : Nat} : st.val (.func g) = .clo g [] := rfl
theorem val_int {k : IntKind} {z : Int} : st.val (.const (.int k z)) = .int k z := rfl
theorem val_bool {b : Bool} : st.val (.const (.bool b)) = .bool b := rfl
theorem val_str {s : ByteArray} : st.val (.const (.string s)) = .str s := rfl
theorem val_nils : st.val (.const (.slice none 0 0)) = .nils := rfl
theorem op_move {x : Operand} : evOp E Φ nid { dst, op := .move x, type, pos, after, guard } st = st.put dst (st.val x) := rfl
theorem op_assign {x : Operand} : evOp E Φ nid { dst, op := .assign x, type, pos, after, guard } st = st.put dst (st.val x) := rfl
def evPick (x y : AV) : AV → Option AV
  | .bool t => some (if t = true then x else y)
  | _ => none
theorem pick_true {x y : AV} : evPick x y (.bool true) = some x := rfl
theorem pick_false {x y : AV} : evPick x y (.bool false) = some y := rfl
theorem op_pick {c x y : Operand} : evOp E Φ nid { dst, op := .pick c x y, type, pos, after, guard } st = thenPut st dst (evPick (st.val x) (st.val y) (st.val c)) := by
  simp only [evOp, evOp0, evFree, thenPut]
  cases st.val c <;> rfl
theorem op_load {t : TypeId} {x : Operand} : evOp E Φ nid { dst, op := .load t x, type, pos, after, guard } st = thenPut st dst (evLoad E.P st.box t (st.val x)) := by
  simp only [evOp, evOp0, evFree, thenPut]
  cases evLoad E.P st.box t (st.val x) <;> rfl
theorem op_fieldAddr {t : TypeId} {x : Operand} {i : Nat} : evOp E Φ nid { dst, op := .fieldAddr t x i, type, pos, after, guard } st = thenPut st dst (evFieldAddr E.P t (st.val x) i) := by
  simp only [evOp, evOp0, evFree, thenPut]
  cases evFieldAddr E.P t (st.val x) i <;> rfl
theorem op_field {t : TypeId} {x : Operand} {i : Nat} : evOp E Φ nid { dst, op := .field t x i, type, pos, after, guard } st = thenPut st dst (evField E.P t (st.val x) i) := by
  simp only [evOp, evOp0, evFree, thenPut]
  cases evField E.P t (st.val x) i <;> rfl
theorem op_indexAddr {t : TypeId} {x y : Operand} : evOp E Φ nid { dst, op := .indexAddr t x y, type, pos, after, guard } st = thenPut st dst (evIndexAddr E.P t (st.val x) (st.val y)) := by
  simp only [evOp, evOp0, evFree, thenPut]
  cases evIndexAddr E.P t (st.val x) (st.val y) <;> rfl
theorem op_index {t : TypeId} {x y : Operand} : evOp E Φ nid { dst, op := .index t x y, type, pos, after, guard } st = thenPut st dst (evIndex E.P t (st.val x) (st.val y)) := by
  simp only [evOp, evOp0, evFree, thenPut]
  cases evIndex E.P t (st.val x) (st.val y) <;> rfl
theorem op_unOp {u : UnOp} {t : TypeId} {x : Operand} : evOp E Φ nid { dst, op := .unOp u t x, type, pos, after, guard } st = thenPut st dst (evUn u (st.val x)) := by
  simp only [evOp, evOp0, evFree, thenPut]
  cases evUn u (st.val x) <;> rfl
theorem op_convert {s d : TypeId} {x : Operand} : evOp E Φ nid { dst, op := .convert s d x, type, pos, after, guard } st = thenPut st dst (evConvert E.P s d (st.val x)) := by
  simp only [evOp, evOp0, evFree, thenPut]
  cases evConvert E.P s d (st.val x) <;> rfl
def evBin2 (P : Program) (op : BinOp) (t : TypeId) : AV → AV → Option AV
  | .agg a, .agg b => (evEq P t a b).bind fun r => match op with | .eql => some (.bool r) | .neq => some (.bool (!r)) | _ => none
  | a, b => evBin P op t a b
theorem evBin2_map (op : BinOp) (t : TypeId) (X Y : AV) : (match X, Y with
    | .agg a, .agg b => (evEq P t a b).bind fun r => (match op with | .eql => some (.bool r, ([] : List Nat)) | .neq => some (.bool (!r), []) | _ => none)
    | a, b => (evBin P op t a b).map (·, [])) = (evBin2 P op t X Y).map (·, []) := by
  cases X <;> cases Y <;> first
    | rfl
    | (rename_i a b
       simp only [evBin2]
       cases evEq P t a b with
       | none => rfl
       | some r => cases op <;> rfl)
theorem op_binOp {op : BinOp} {t u : TypeId} {x y : Operand} : evOp E Φ nid { dst, op := .binOp op t x y u, type, pos, after, guard } st = thenPut st dst (evBin2 E.P op t (st.val x) (st.val y)) := by
  have h : evFree E Φ st.box nid st.val (.binOp op t x y u) = (evBin2 E.P op t (st.val x) (st.val y)).map (·, []) := evBin2_map (P := E.P) op t (st.val x) (st.val y)
  show (evFree E Φ st.box nid st.val (.binOp op t x y u)).bind (fun (v, _) => st.put dst v) = _
  rw [h]
  simp only [thenPut]
  cases evBin2 E.P op t (st.val x) (st.val y) <;> rfl
def evExtract (i : Nat) : AV → Option AV
  | .tup vs => vs[i]?
  | _ => none
theorem extract_tup {vs : List AV} {i : Nat} : evExtract i (.tup vs) = vs[i]? := rfl
theorem op_extract {x : Operand} {i : Nat} : evOp E Φ nid { dst, op := .extract x i, type, pos, after, guard } st = thenPut st dst (evExtract i (st.val x)) := by
  have h : evFree E Φ st.box nid st.val (.extract x i) = (evExtract i (st.val x)).map (·, []) := by
    simp only [evFree, evExtract]
    cases st.val x <;> rfl
  show (evFree E Φ st.box nid st.val (.extract x i)).bind (fun (v, _) => st.put dst v) = _
  rw [h]
  simp only [thenPut]
  cases evExtract i (st.val x) <;> rfl
theorem op_build {t : TypeId} {ps : Array (Nat × Operand)} : evOp E Φ nid { dst, op := .build t ps, type, pos, after, guard } st = thenPut st dst (evBuild E.P t (ps.toList.map fun p => (p.1, st.val p.2))) := by
  simp only [evOp, evOp0, evFree, thenPut]
  cases evBuild E.P t (ps.toList.map fun p => (p.1, st.val p.2)) <;> rfl
theorem op_len {x : Operand} {t : TypeId} : evOp E Φ nid { dst, op := .call { callee := .builtin .len, args := #[x], argTypes := #[t] }, type, pos, after, guard } st = thenPut st dst (evLen E.P t (st.val x)) := by
  simp only [evOp, evOp0, evFree, thenPut]
  simp only [List.getElem?_toArray, List.getElem?_cons_zero]
  cases evLen E.P t (st.val x) <;> rfl
theorem op_alloc {t : TypeId} : evOp E Φ nid { dst, op := .alloc t, type, pos, after, guard } st = evAlloc E.P t nid dst st := rfl
theorem op_box {t : TypeId} {x : Operand} : evOp E Φ nid { dst, op := .box t x, type, pos, after, guard } st = evBox nid dst (st.val x) st := rfl
theorem op_store {t : TypeId} {x p : Operand} : evOp E Φ nid { dst, op := .store t p x, type, pos, after, guard } st = evStore E.P t (st.val p) (st.val x) dst st := rfl
theorem op_buildSlice {t : TypeId} {len : Nat} {ps : Array (Nat × Operand)} : evOp E Φ nid { dst, op := .buildSlice t len ps, type, pos, after, guard } st = takeT E.P t len nid ps.toList dst st (evBuildSlice E.P t len (ps.toList.map fun p => (p.1, st.val p.2)) nid dst st) := rfl
theorem takeT_some {P : Program} {t len : Nat} {ps : List (Nat × Operand)} {s : St} : takeT P t len nid ps dst st (some s) = some s := rfl
theorem op_makeSlice {t : TypeId} {l c : Operand} : evOp E Φ nid { dst, op := .makeSlice t l c, type, pos, after, guard } st = evMakeSlice E.P t (st.val l) (st.val c) nid dst st := rfl
theorem op_append {s x : Operand} {t u : TypeId} : evOp E Φ nid { dst, op := .call { callee := .builtin .append, args := #[s, x], argTypes := #[t, u] }, type, pos, after, guard } st = evAppend E.P t u (st.val s) (st.val x) nid dst st := rfl
theorem op_makeFunc {g : Nat} {cs : Array Operand} : evOp E Φ nid { dst, op := .makeFunc (.func g) #[] cs, type, pos, after, guard } st = st.put dst (.clo g (cs.toList.map st.val)) := rfl
theorem opP_move {x : Operand} : evOpP E Φ nid { dst, op := .move x, type, pos, after, guard } st = evOp E Φ nid { dst, op := .move x, type, pos, after, guard } st := rfl
theorem opP_assign {x : Operand} : evOpP E Φ nid { dst, op := .assign x, type, pos, after, guard } st = evOp E Φ nid { dst, op := .assign x, type, pos, after, guard } st := rfl
theorem opP_pick {c x y : Operand} : evOpP E Φ nid { dst, op := .pick c x y, type, pos, after, guard } st = evOp E Φ nid { dst, op := .pick c x y, type, pos, after, guard } st := rfl
theorem opP_load {t : TypeId} {x : Operand} : evOpP E Φ nid { dst, op := .load t x, type, pos, after, guard } st = evOp E Φ nid { dst, op := .load t x, type, pos, after, guard } st := rfl
theorem opP_fieldAddr {t : TypeId} {x : Operand} {i : Nat} : evOpP E Φ nid { dst, op := .fieldAddr t x i, type, pos, after, guard } st = evOp E Φ nid { dst, op := .fieldAddr t x i, type, pos, after, guard } st := rfl
theorem opP_field {t : TypeId} {x : Operand} {i : Nat} : evOpP E Φ nid { dst, op := .field t x i, type, pos, after, guard } st = evOp E Φ nid { dst, op := .field t x i, type, pos, after, guard } st := rfl
theorem opP_indexAddr {t : TypeId} {x y : Operand} : evOpP E Φ nid { dst, op := .indexAddr t x y, type, pos, after, guard } st = evOp E Φ nid { dst, op := .indexAddr t x y, type, pos, after, guard } st := rfl
theorem opP_index {t : TypeId} {x y : Operand} : evOpP E Φ nid { dst, op := .index t x y, type, pos, after, guard } st = evOp E Φ nid { dst, op := .index t x y, type, pos, after, guard } st := rfl
theorem opP_unOp {u : UnOp} {t : TypeId} {x : Operand} : evOpP E Φ nid { dst, op := .unOp u t x, type, pos, after, guard } st = evOp E Φ nid { dst, op := .unOp u t x, type, pos, after, guard } st := rfl
theorem opP_convert {s d : TypeId} {x : Operand} : evOpP E Φ nid { dst, op := .convert s d x, type, pos, after, guard } st = evOp E Φ nid { dst, op := .convert s d x, type, pos, after, guard } st := rfl
theorem opP_binOp {op : BinOp} {t u : TypeId} {x y : Operand} : evOpP E Φ nid { dst, op := .binOp op t x y u, type, pos, after, guard } st = evOp E Φ nid { dst, op := .binOp op t x y u, type, pos, after, guard } st := rfl
theorem opP_extract {x : Operand} {i : Nat} : evOpP E Φ nid { dst, op := .extract x i, type, pos, after, guard } st = evOp E Φ nid { dst, op := .extract x i, type, pos, after, guard } st := rfl
theorem opP_build {t : TypeId} {ps : Array (Nat × Operand)} : evOpP E Φ nid { dst, op := .build t ps, type, pos, after, guard } st = evOp E Φ nid { dst, op := .build t ps, type, pos, after, guard } st := rfl
theorem opP_alloc {t : TypeId} : evOpP E Φ nid { dst, op := .alloc t, type, pos, after, guard } st = evOp E Φ nid { dst, op := .alloc t, type, pos, after, guard } st := rfl
theorem opP_box {t : TypeId} {x : Operand} : evOpP E Φ nid { dst, op := .box t x, type, pos, after, guard } st = evOp E Φ nid { dst, op := .box t x, type, pos, after, guard } st := rfl
theorem opP_store {t : TypeId} {x p : Operand} : evOpP E Φ nid { dst, op := .store t p x, type, pos, after, guard } st = evOp E Φ nid { dst, op := .store t p x, type, pos, after, guard } st := rfl
theorem opP_buildSlice {t : TypeId} {len : Nat} {ps : Array (Nat × Operand)} : evOpP E Φ nid { dst, op := .buildSlice t len ps, type, pos, after, guard } st = evBuildSlice E.P t len (ps.toList.map fun p => (p.1, st.val p.2)) nid dst st := rfl
theorem opP_makeSlice {t : TypeId} {l c : Operand} : evOpP E Φ nid { dst, op := .makeSlice t l c, type, pos, after, guard } st = evOp E Φ nid { dst, op := .makeSlice t l c, type, pos, after, guard } st := rfl
theorem opP_callO {c : Call} : evOpP E Φ nid { dst, op := .call c, type, pos, after, guard } st = evOp E Φ nid { dst, op := .call c, type, pos, after, guard } st := rfl
theorem opP_makeFunc {f : Fn} {as bs : Array Operand} : evOpP E Φ nid { dst, op := .makeFunc f as bs, type, pos, after, guard } st = evOp E Φ nid { dst, op := .makeFunc f as bs, type, pos, after, guard } st := rfl
theorem opP_nilCheck {x : Operand} : evOpP E Φ nid { dst, op := .nilCheck x, type, pos, after, guard } st = evOp E Φ nid { dst, op := .nilCheck x, type, pos, after, guard } st := rfl
theorem still_alloc {t : TypeId} : stillB E { dst, op := .alloc t, type, pos, after, guard } st = true := rfl
def afterRo (nid : Nat) (dst : Option Nat) (st : St) (args : List AV) : Option (AV × List (List AV)) → Option St
  | some (ret, []) => if small ret = true then (if noref ret = true then st.put dst (import_ nid ret) else if args.any (·.any isPtr) = true then none else (st.freeze (args.flatMap AV.rows)).put dst (import_ nid ret)) else none
  | _ => none
theorem evCall_ro {g : Nat} {args caps : List AV} : evCall Φ [] nid g args caps dst st = afterRo nid dst st (args ++ caps) (Φ g ((args ++ caps).map (lend st.box 4)) []) := by
  simp only [evCall, List.all_nil, if_true, evRo]
  cases Φ g ((args ++ caps).map (lend st.box 4)) [] with
  | none => rfl
  | some p =>
    obtain ⟨ret, fin⟩ := p
    cases fin with
    | cons _ _ => rfl
    | nil =>
      simp only [Option.bind_some, afterRo]
      split
      · split
        · rfl
        · split <;> rfl
      · rfl
theorem op_callF {g : Nat} {as : Array Operand} {ts : Array TypeId} :
    evOp E Φ nid { dst, op := .call { callee := .value (.func g), args := as, argTypes := ts }, type, pos, after, guard } st = evCall Φ (E.md g) nid g (as.toList.map st.val) [] dst st := rfl
def finV (v : AV) : Option (AV × List (List AV)) :=
  if noPtr v ∧ nodupB (dedup v.rows) ∧ v.rows.all (fun r => decide (r ∈ dedup v.rows)) then some (rename (dedup v.rows) v, []) else none
def finW (st : St) : AV → Option (AV × List (List AV))
  | .ptr id 0 => (st.box id).bind fun cs => if (cs.all noPtr) = true ∧ nodupB (dedup (AV.rowss cs)) = true ∧ ((AV.rowss cs).all fun r => decide (r ∈ dedup (AV.rowss cs))) = true then some (.ptr 0 0, [cs.map (rename (dedup (AV.rowss cs)))]) else none
  | v => finV v
theorem renameR_nil {g : List Nat} {v : AV} : renameR g [] v = rename g v := by
  unfold renameR rename
  simp
theorem finW_eq {v : AV} : (let b := List.range 0 ++ newBox 0 v
      (boxesOf st b).bind fun ios =>
        let g := dedup (v.rows ++ ios.flatMap AV.rowss)
        if okRet 0 v = true ∧ (ios.all fun cs => cs.all noPtr) = true ∧ nodupB g = true ∧ nodupB b = true ∧ ((v.rows ++ ios.flatMap AV.rowss).all fun r => decide (r ∈ g)) = true then some (renameR g b v, ios.map fun cs => cs.map (rename g)) else none) = finW st v := by
  have plain : ∀ v : AV, newBox 0 v = [] → okRet 0 v = noPtr v → ((boxesOf st (List.range 0 ++ newBox 0 v)).bind fun ios =>
        if okRet 0 v = true ∧ (ios.all fun cs => cs.all noPtr) = true ∧ nodupB (dedup (v.rows ++ ios.flatMap AV.rowss)) = true ∧ nodupB (List.range 0 ++ newBox 0 v) = true ∧ ((v.rows ++ ios.flatMap AV.rowss).all fun r => decide (r ∈ dedup (v.rows ++ ios.flatMap AV.rowss))) = true then some (renameR (dedup (v.rows ++ ios.flatMap AV.rowss)) (List.range 0 ++ newBox 0 v) v, ios.map fun cs => cs.map (rename (dedup (v.rows ++ ios.flatMap AV.rowss)))) else none) = finV v := by
    intro v h1 h2
    rw [h1, h2]
    simp [boxesOf, renameR_nil, finV, nodupB]
  simp only
  cases v with
  | ptr id off =>
    cases off with
    | zero =>
      simp only [newBox, finW, Nat.zero_le, if_true, List.range_zero, List.nil_append, boxesOf]
      cases st.box id with
      | none => rfl
      | some cs => simp [okRet, nodupB, renameR, AV.mapO, idx, AV.rows]
    | succ off => exact plain _ rfl rfl
  | _ => exact plain _ rfl rfl
theorem finish_tmp {t : Nat} : finish P [] [.tmp t] 0 st = finW st (st.get t) := by
  rw [← finW_eq]
  rfl
theorem finish_cell {a : Nat} {t : TypeId} : finish P [] [.cell a t] 0 st = (evLoad P st.box t (st.get a)).bind (finW st) := by
  unfold finish
  simp only [resultsOf, resultOf]
  cases evLoad P st.box t (st.get a) with
  | none => rfl
  | some v =>
    simp only [Option.map_some, Option.bind_some]
    rw [← finW_eq]
    rfl
theorem finish_nil : finish P [] [] 0 st = some (.tup [], []) := by
  have := finW_eq (st := st) (v := .tup [])
  exact this
theorem finish_two {t u : Nat} : finish P [] [.tmp t, .tmp u] 0 st = finV (.tup [st.get t, st.get u]) := by
  have := finW_eq (st := st) (v := .tup [st.get t, st.get u])
  exact this
theorem finish_three {t u v : Nat} : finish P [] [.tmp t, .tmp u, .tmp v] 0 st = finV (.tup [st.get t, st.get u, st.get v]) := by
  have := finW_eq (st := st) (v := .tup [st.get t, st.get u, st.get v])
  exact this
theorem finish_four {t u v z : Nat} : finish P [] [.tmp t, .tmp u, .tmp v, .tmp z] 0 st = finV (.tup [st.get t, st.get u, st.get v, st.get z]) := by
  have := finW_eq (st := st) (v := .tup [st.get t, st.get u, st.get v, st.get z])
  exact this
theorem finW_bool {b : Bool} : finW st (.bool b) = some (.bool b, []) := rfl
theorem finW_int {k : IntKind} {z : Int} : finW st (.int k z) = some (.int k z, []) := rfl
theorem finW_str {s : ByteArray} : finW st (.str s) = some (.str s, []) := rfl
theorem finW_agg {cs : List AV} : finW st (.agg cs) = finV (.agg cs) := rfl
theorem finW_own {id e sz : Nat} {fz : Bool} {xs : List AV} : finW st (.own id fz e sz xs) = finV (.own id fz e sz xs) := rfl
theorem finW_sl {fl : Bool} {xs : List AV} : finW st (.sl fl xs) = finV (.sl fl xs) := rfl
theorem finW_nils : finW st .nils = finV .nils := rfl
theorem finW_tup {cs : List AV} : finW st (.tup cs) = finV (.tup cs) := rfl
theorem finW_ptr {id : Nat} : finW st (.ptr id 0) = (st.box id).bind fun cs => if (cs.all noPtr) = true ∧ nodupB (dedup (AV.rowss cs)) = true ∧ ((AV.rowss cs).all fun r => decide (r ∈ dedup (AV.rowss cs))) = true then some (.ptr 0 0, [cs.map (rename (dedup (AV.rowss cs)))]) else none := rfl
def finI (st : St) (v : AV) : Option (AV × List (List AV)) :=
  (st.box 0).bind fun cs => if noPtr v = true ∧ (cs.all noPtr) = true ∧ nodupB (dedup (v.rows ++ AV.rowss cs)) = true ∧ ((v.rows ++ AV.rowss cs).all fun r => decide (r ∈ dedup (v.rows ++ AV.rowss cs))) = true then
    some (rename (dedup (v.rows ++ AV.rowss cs)) v, [cs.map (rename (dedup (v.rows ++ AV.rowss cs)))]) else none
theorem rename_nop {g : List Nat} {v : AV} {b : List Nat} (h : noPtr v = true) : renameR g b v = rename g v := by
  have main : ∀ v : AV, v.any isBad = false → v.mapO (fun id fz e sz xs => .own (idx g id) fz e sz xs) (fun id off => if id ∈ b then .ptr (idx b id) off else .undef) (fun _ _ _ _ _ _ _ _ => .undef) (fun _ => .nils) = v.mapO (fun id fz e sz xs => .own (idx g id) fz e sz xs) (fun _ _ => .undef) (fun _ _ _ _ _ _ _ _ => .undef) (fun _ => .nils) := by
    intro v
    induction v using AV.rec (motive_2 := fun cs => AV.anys isBad cs = false → AV.mapOs (fun id fz e sz xs => .own (idx g id) fz e sz xs) (fun id off => if id ∈ b then .ptr (idx b id) off else .undef) (fun _ _ _ _ _ _ _ _ => .undef) (fun _ => .nils) cs = AV.mapOs (fun id fz e sz xs => .own (idx g id) fz e sz xs) (fun _ _ => .undef) (fun _ _ _ _ _ _ _ _ => .undef) (fun _ => .nils) cs) with
    | ptr id off => intro h; simp [AV.any, isBad, isPtr] at h
    | agg cs ih => intro h; simp only [AV.any, Bool.or_eq_false_iff] at h; simp only [AV.mapO]; rw [ih h.2]
    | tup cs ih => intro h; simp only [AV.any, Bool.or_eq_false_iff] at h; simp only [AV.mapO]; rw [ih h.2]
    | clo n cs ih => intro h; simp only [AV.any, Bool.or_eq_false_iff] at h; simp only [AV.mapO]; rw [ih h.2]
    | nil => rfl
    | cons c cs ih1 ih2 => rename_i h; simp only [AV.anys, Bool.or_eq_false_iff] at h; simp only [AV.mapOs]; rw [ih1 h.1, ih2 h.2]
    | _ => intro _; rfl
  unfold renameR rename
  exact main v (by simpa [noPtr] using h)
theorem finI_eq {v : AV} (hp : ∀ id off, v ≠ .ptr id off) : (let b := List.range 1 ++ newBox 1 v
      (boxesOf st b).bind fun ios =>
        let g := dedup (v.rows ++ ios.flatMap AV.rowss)
        if okRet 1 v = true ∧ (ios.all fun cs => cs.all noPtr) = true ∧ nodupB g = true ∧ nodupB b = true ∧ ((v.rows ++ ios.flatMap AV.rowss).all fun r => decide (r ∈ g)) = true then some (renameR g b v, ios.map fun cs => cs.map (rename g)) else none) = finI st v := by
  have h1 : newBox 1 v = [] := by
    cases v with
    | ptr id off => exact absurd rfl (hp id off)
    | _ => rfl
  have h2 : okRet 1 v = noPtr v := by
    cases v with
    | ptr id off => exact absurd rfl (hp id off)
    | _ => rfl
  have e : List.range 1 = [0] := rfl
  simp only [h1, h2, e, List.append_nil, boxesOf, finI]
  cases st.box 0 with
  | none => rfl
  | some cs =>
    simp only [Option.bind_some, Option.map_some, List.flatMap_cons, List.flatMap_nil, List.append_nil, List.all_cons, List.all_nil, Bool.and_true, List.map_cons, List.map_nil]
    have e2 : nodupB [0] = true := rfl
    by_cases hn : noPtr v = true
    · simp only [e2, hn, true_and]
      rw [rename_nop hn]
    · simp [hn]
def isPtrB : AV → Bool
  | .ptr _ _ => true
  | _ => false
theorem isPtrB_no {v : AV} (h : isPtrB v = false) : ∀ id off, v ≠ .ptr id off := by
  intro id off e
  subst e
  simp [isPtrB] at h
theorem finish_io1 {m : Mode} {md : List Mode} {t : Nat} (hm : mutSlots 0 (m :: md) = []) (hp : isPtrB (st.get t) = false) : finish P (m :: md) [.tmp t] 1 st = finI st (st.get t) := by
  rw [← finI_eq (isPtrB_no hp)]
  unfold finish
  simp only [resultsOf, resultOf, Option.map_some, Option.bind_some, tupOf, hm]
  rfl
theorem finish_io0 {m : Mode} {md : List Mode} (hm : mutSlots 0 (m :: md) = []) : finish P (m :: md) [] 1 st = finI st (.tup []) := by
  rw [← finI_eq (fun _ _ => by simp)]
  unfold finish
  simp only [resultsOf, Option.bind_some, tupOf, hm]
  rfl
theorem finish_io2 {m : Mode} {md : List Mode} {t u : Nat} (hm : mutSlots 0 (m :: md) = []) : finish P (m :: md) [.tmp t, .tmp u] 1 st = finI st (.tup [st.get t, st.get u]) := by
  rw [← finI_eq (fun _ _ => by simp)]
  unfold finish
  simp only [resultsOf, resultOf, Option.map_some, Option.bind_some, tupOf, hm]
  rfl
theorem finish_io3 {m : Mode} {md : List Mode} {t u v : Nat} (hm : mutSlots 0 (m :: md) = []) : finish P (m :: md) [.tmp t, .tmp u, .tmp v] 1 st = finI st (.tup [st.get t, st.get u, st.get v]) := by
  rw [← finI_eq (fun _ _ => by simp)]
  unfold finish
  simp only [resultsOf, resultOf, Option.map_some, Option.bind_some, tupOf, hm]
  rfl
theorem finish_ioc {m : Mode} {md : List Mode} {a : Nat} {t : TypeId} (hm : mutSlots 0 (m :: md) = []) : finish P (m :: md) [.cell a t] 1 st = (evLoad P st.box t (st.get a)).bind fun v => if isPtrB v = true then finish P (m :: md) [.cell a t] 1 st else finI st v := by
  cases h : evLoad P st.box t (st.get a) with
  | none => unfold finish; simp only [resultsOf, resultOf, h]; rfl
  | some v =>
    simp only [Option.bind_some]
    split
    · rfl
    · rename_i hp
      rw [← finI_eq (isPtrB_no (by simpa using hp))]
      unfold finish
      simp only [resultsOf, resultOf, h, Option.map_some, Option.bind_some, tupOf, hm]
      rfl
theorem finish_give {m : Mode} {md : List Mode} {rs : List ResultVar} (hm : mutSlots 0 (m :: md) = []) : finish P (m :: md) rs 0 st = finish P [] rs 0 st := by
  unfold finish
  rw [hm]
  rfl
def finC (st : St) (i : Nat) (v : AV) : Option (AV × List (List AV)) :=
  if noPtr v = true ∧ noPtr (st.get i) = true ∧ nodupB (dedup (v.rows ++ (st.get i).rows)) = true ∧ ((v.rows ++ (st.get i).rows).all fun r => decide (r ∈ dedup (v.rows ++ (st.get i).rows))) = true then
    some (rename (dedup (v.rows ++ (st.get i).rows)) v, [[rename (dedup (v.rows ++ (st.get i).rows)) (st.get i)]]) else none
theorem finish_mut1 {m : Mode} {md : List Mode} {t i : Nat} (hm : mutSlots 0 (m :: md) = [i]) : finish P (m :: md) [.tmp t] 0 st = finC st i (st.get t) := by
  unfold finish
  simp only [resultsOf, resultOf, Option.map_some, Option.bind_some, tupOf, hm, List.map_cons, List.map_nil, AV.rowss, List.append_nil, List.all_cons, List.all_nil, Bool.and_true, true_and, finC]
theorem finV_bool {b : Bool} : finV (.bool b) = some (.bool b, []) := rfl
theorem finV_int {k : IntKind} {z : Int} : finV (.int k z) = some (.int k z, []) := rfl
theorem finV_str {s : ByteArray} : finV (.str s) = some (.str s, []) := rfl
def plainC : AV → Bool
  | .int _ _ => true
  | .bool _ => true
  | .str _ => true
  | .sl _ _ => true
  | _ => false
theorem plain_facts : ∀ {cs : List AV}, cs.all plainC = true → AV.rowss cs = [] ∧ AV.anys isBad cs = false ∧ ∀ f g h z, AV.mapOs f g h z cs = cs
  | [], _ => ⟨rfl, rfl, fun _ _ _ _ => rfl⟩
  | c :: r, h => by
    simp only [List.all_cons, Bool.and_eq_true] at h
    obtain ⟨h1, h2, h3⟩ := plain_facts h.2
    cases c <;> simp [plainC] at h
    all_goals exact ⟨by simp [AV.rowss, AV.rows, h1], by show (AV.any _ _ || AV.anys _ r) = false; rw [h2]; rfl, fun f g h z => by simp [AV.mapOs, AV.mapO, h3]⟩
theorem finV_agg {cs : List AV} (h : cs.all plainC = true) : finV (.agg cs) = some (.agg cs, []) := by
  obtain ⟨h1, h2, h3⟩ := plain_facts h
  have hp : noPtr (.agg cs) = true := by
    simp only [noPtr, AV.any, h2]
    rfl
  simp [finV, AV.rows, h1, hp, rename, AV.mapO, h3, nodupB, dedup]
theorem lend_int {bx : Nat → Option (List AV)} {m : Nat} {k : IntKind} {z : Int} : lend bx (m + 1) (.int k z) = .int k z := rfl
theorem lend_bool {bx : Nat → Option (List AV)} {m : Nat} {b : Bool} : lend bx (m + 1) (.bool b) = .bool b := rfl
theorem lend_str {bx : Nat → Option (List AV)} {m : Nat} {s : ByteArray} : lend bx (m + 1) (.str s) = .str s := rfl
theorem lend_sl {bx : Nat → Option (List AV)} {m : Nat} {fl : Bool} {xs : List AV} : lend bx (m + 1) (.sl fl xs) = .sl fl xs := rfl
theorem lend_nils {bx : Nat → Option (List AV)} {m : Nat} : lend bx (m + 1) .nils = .sl true [] := rfl
theorem lend_own {bx : Nat → Option (List AV)} {m id e sz : Nat} {fz : Bool} {xs : List AV} : lend bx (m + 1) (.own id fz e sz xs) = .sl true (AV.shuts xs) := rfl
theorem lend_agg {bx : Nat → Option (List AV)} {m : Nat} {cs : List AV} : lend bx (m + 1) (.agg cs) = .agg (cs.map (lend bx (m + 1))) := by
  show AV.mapO _ _ _ _ _ = AV.agg (cs.map (AV.mapO _ _ _ _))
  rw [AV.mapO, AV.mapOs_eq]
theorem after_bool {args : List AV} {b : Bool} : afterRo nid dst st args (some (.bool b, [])) = st.put dst (.bool b) := rfl
theorem after_int {args : List AV} {k : IntKind} {z : Int} : afterRo nid dst st args (some (.int k z, [])) = st.put dst (.int k z) := rfl
theorem after_str {args : List AV} {s : ByteArray} : afterRo nid dst st args (some (.str s, [])) = st.put dst (.str s) := rfl
def plainS : AV → Bool
  | .int _ _ => true
  | .bool _ => true
  | .str _ => true
  | _ => false
theorem plainS_facts : ∀ {cs : List AV}, cs.all plainS = true → AV.rowss cs = [] ∧ AV.anys isRef cs = false ∧ ∀ f g h z, AV.mapOs f g h z cs = cs
  | [], _ => ⟨rfl, rfl, fun _ _ _ _ => rfl⟩
  | c :: r, h => by
    simp only [List.all_cons, Bool.and_eq_true] at h
    obtain ⟨h1, h2, h3⟩ := plainS_facts h.2
    cases c <;> simp [plainS] at h
    all_goals exact ⟨by simp [AV.rowss, AV.rows, h1], by show (AV.any _ _ || AV.anys _ r) = false; rw [h2]; rfl, fun f g h z => by simp [AV.mapOs, AV.mapO, h3]⟩
theorem after_agg {args cs : List AV} (h : cs.all plainS = true) : afterRo nid dst st args (some (.agg cs, [])) = st.put dst (.agg cs) := by
  obtain ⟨h1, h2, h3⟩ := plainS_facts h
  have hn : noref (.agg cs) = true := by
    simp only [noref, AV.any, h2]
    rfl
  have hs : small (.agg cs) = true := by simp [small, AV.rows, h1]
  simp [afterRo, hn, hs, import_, AV.mapO, h3]
def afterRoQ (nid : Nat) (dst : Option Nat) (st : St) (args : List AV) : Option (AV × List (List AV)) → Option St
  | some (ret, []) => if small ret = true then (if noref ret = true then st.put dst (import_ nid ret) else if args.any (·.any isPtr) = true then none else (match args.flatMap AV.rows with | [] => st.put dst (import_ nid ret) | _ => none)) else none
  | _ => none
def callRoQ (md : List Mode) (nid : Nat) (dst : Option Nat) (st : St) (args : List AV) (r : Option (AV × List (List AV))) : Option St := if md.all (· == .ro) = true then afterRoQ nid dst st args r else none
theorem callRoQ_ro {args : List AV} {r : Option (AV × List (List AV))} : callRoQ [] nid dst st args r = afterRoQ nid dst st args r := rfl
theorem roQ {g : Nat} {args : List AV} : ((evRo Φ st.box nid g args).bind fun (v, ids) => match ids with | [] => st.put dst v | _ => none) = afterRoQ nid dst st args (Φ g (args.map (lend st.box 4)) []) := by
  simp only [evRo]
  cases Φ g (args.map (lend st.box 4)) [] with
  | none => rfl
  | some p =>
    obtain ⟨ret, fin⟩ := p
    cases fin with
    | cons _ _ => rfl
    | nil =>
      simp only [Option.bind_some, afterRoQ]
      split
      · split
        · rfl
        · split
          · rfl
          · simp only [Option.bind_some]
      · rfl
theorem opQ_callF {g : Nat} {as : Array Operand} {ts : Array TypeId} :
    evOpQ E Φ nid { dst, op := .call { callee := .value (.func g), args := as, argTypes := ts }, type, pos, after, guard } st =
      callRoQ (E.md g) nid dst st (as.toList.map st.val ++ []) (Φ g ((as.toList.map st.val ++ []).map (lend st.box 4)) []) := by
  simp only [evOpQ, val_func, callRoQ]
  split
  · exact roQ
  · first | rfl | simp
theorem afterQ_bool {args : List AV} {b : Bool} : afterRoQ nid dst st args (some (.bool b, [])) = st.put dst (.bool b) := rfl
theorem afterQ_int {args : List AV} {k : IntKind} {z : Int} : afterRoQ nid dst st args (some (.int k z, [])) = st.put dst (.int k z) := rfl
theorem afterQ_agg {args cs : List AV} (h : cs.all plainS = true) : afterRoQ nid dst st args (some (.agg cs, [])) = st.put dst (.agg cs) := by
  obtain ⟨h1, h2, h3⟩ := plainS_facts h
  have hn : noref (.agg cs) = true := by
    simp only [noref, AV.any, h2]
    rfl
  have hs : small (.agg cs) = true := by simp [small, AV.rows, h1]
  simp [afterRoQ, hn, hs, import_, AV.mapO, h3]
theorem bin_quo {t : TypeId} {k : IntKind} {a b : Int} (hb : b ≠ 0) : evBin2 P .quo t (.int k a) (.int k b) = some (.int k (k.wrap (a.tdiv b))) := by simp [evBin2, evBin, evInt, hb]
theorem bin_aeql {t : TypeId} {a b : List AV} : evBin2 P .eql t (.agg a) (.agg b) = (evEq P t a b).bind fun r => some (.bool r) := rfl
theorem bin_aneq {t : TypeId} {a b : List AV} : evBin2 P .neq t (.agg a) (.agg b) = (evEq P t a b).bind fun r => some (.bool (!r)) := rfl
theorem run_succ {ext : Nat → Option (List AV → List (List AV) → Option (AV × List (List AV)))} {k f : Nat} {args : List AV} {ios : List (List AV)} (he : ext f = none) (ho : E.ok f = true) : run E ext (k + 1) f args ios = body E (run E ext k) k f args ios := by
  simp [run, he, ho]
theorem bin_lss {t : TypeId} {k : IntKind} {a b : Int} : evBin2 P .lss t (.int k a) (.int k b) = some (.bool (decide (a < b))) := by simp [evBin2, evBin, evInt]
theorem bin_leq {t : TypeId} {k : IntKind} {a b : Int} : evBin2 P .leq t (.int k a) (.int k b) = some (.bool (decide (a ≤ b))) := by simp [evBin2, evBin, evInt]
theorem bin_gtr {t : TypeId} {k : IntKind} {a b : Int} : evBin2 P .gtr t (.int k a) (.int k b) = some (.bool (decide (b < a))) := by simp [evBin2, evBin, evInt]
theorem bin_geq {t : TypeId} {k : IntKind} {a b : Int} : evBin2 P .geq t (.int k a) (.int k b) = some (.bool (decide (b ≤ a))) := by simp [evBin2, evBin, evInt]
theorem bin_eql {t : TypeId} {k : IntKind} {a b : Int} : evBin2 P .eql t (.int k a) (.int k b) = some (.bool (a == b)) := by simp [evBin2, evBin, evInt]
theorem bin_neq {t : TypeId} {k : IntKind} {a b : Int} : evBin2 P .neq t (.int k a) (.int k b) = some (.bool (a != b)) := by simp [evBin2, evBin, evInt]
theorem bin_add {t : TypeId} {k : IntKind} {a b : Int} : evBin2 P .add t (.int k a) (.int k b) = some (.int k (k.wrap (a + b))) := by simp [evBin2, evBin, evInt]
theorem bin_sub {t : TypeId} {k : IntKind} {a b : Int} : evBin2 P .sub t (.int k a) (.int k b) = some (.int k (k.wrap (a - b))) := by simp [evBin2, evBin, evInt]
theorem bin_mul {t : TypeId} {k : IntKind} {a b : Int} : evBin2 P .mul t (.int k a) (.int k b) = some (.int k (k.wrap (a * b))) := by simp [evBin2, evBin, evInt]
theorem bin_beql {t : TypeId} {a b : Bool} (h : tagOf P t = .bool) : evBin2 P .eql t (.bool a) (.bool b) = some (.bool (a == b)) := by simp [evBin2, evBin, h]
theorem bin_bneq {t : TypeId} {a b : Bool} (h : tagOf P t = .bool) : evBin2 P .neq t (.bool a) (.bool b) = some (.bool (!(a == b))) := by simp [evBin2, evBin, h]
theorem un_not {b : Bool} : evUn .not (.bool b) = some (.bool (!b)) := rfl
end
end Go.Proofs.Ytggkeechdakccaa.Flat
/-
The evaluator, a step at a time: rows, and what is kept at a loop's head.
-/
namespace Go.Proofs.Ytggkeechdakccaa.Flat
section
variable {E : Env} {Φ : Phi} {n f np nid : Nat} {st st' : St} {P : Program}
theorem len_sl {t : TypeId} {fl : Bool} {xs : List AV} (h : isSliceT P t = true) : evLen P t (.sl fl xs) = some (.int .i64 (xs.length : Nat)) := by simp [evLen, h]
theorem len_own {t : TypeId} {id e sz : Nat} {fz : Bool} {xs : List AV} (h : isSliceT P t = true) : evLen P t (.own id fz e sz xs) = some (.int .i64 (xs.length : Nat)) := by simp [evLen, h]
theorem len_nils {t : TypeId} (h : isSliceT P t = true) : evLen P t .nils = some (.int .i64 0) := by simp [evLen, h]
end
end Go.Proofs.Ytggkeechdakccaa.Flat
/-
The evaluator, a step at a time: branches that are not decided, and loops over a row.
-/
namespace Go.Proofs.Ytggkeechdakccaa.Flat
section
variable {E : Env} {Φ : Phi} {n f np nid : Nat} {o : Oper} {st st' : St} {P : Program}
theorem ifEv_bool {x y : Code} {b : Bool} : ifEv E Φ n f np x y st (.bool b) = match b with | true => ev E Φ n f np x st | false => ev E Φ n f np y st := by cases b <;> rfl
theorem gate_bool {b : Bool} : gate E Φ nid o st (some b) = match b with | true => evOp E Φ nid o st | false => st.put o.dst (.tup []) := by cases b <;> rfl
theorem opS_buildSlice {t : TypeId} {len : Nat} {ps : Array (Nat × Operand)} {dst : Option Nat} {type : TypeId} {pos : String} {after : Array Edge} {guard : Option (Nat × Bool)} {ld l : List Nat} :
    evOpS E Φ nid { dst, op := .buildSlice t len ps, type, pos, after, guard } st ld l = if ((l.all fun t => calm st (ps.toList.flatMap fun p => (st.val p.2).rows) false (st.get t)) && (ld.all fun t => calm st (ps.toList.flatMap fun p => (st.val p.2).rows) true (st.get t))) = true then evBuildSlice E.P t len (ps.toList.map fun p => (p.1, st.val p.2)) nid dst st else none := rfl
theorem opS_append {s x : Operand} {t u : TypeId} {dst : Option Nat} {type : TypeId} {pos : String} {after : Array Edge} {guard : Option (Nat × Bool)} {ld l : List Nat} :
    evOpS E Φ nid { dst, op := .call { callee := .builtin .append, args := #[s, x], argTypes := #[t, u] }, type, pos, after, guard } st ld l = if ((l.all fun t => calm st ((st.val s).rows ++ spent st.tree (st.val x)) false (st.get t)) && (ld.all fun t => calm st ((st.val s).rows ++ spent st.tree (st.val x)) true (st.get t))) = true then evOp E Φ nid { dst, op := .call { callee := .builtin .append, args := #[s, x], argTypes := #[t, u] }, type, pos, after, guard } st else none := rfl
def slidM (md : List Mode) (args : List AV) (st : St) : Option (List Nat × List Nat) :=
  if md.all (· == .ro) = false ∧ md.all (· != .mut) = true then some (giveRows st.box (md.zip args) ++ (roArgs (md.zip args)).flatMap AV.rows, ioBoxes (md.zip args)) else none
theorem opS_call {m : Nat} {as : Array Operand} {ats : Array TypeId} {dst : Option Nat} {type : TypeId} {pos : String} {after : Array Edge} {guard : Option (Nat × Bool)} {ld l : List Nat} :
    evOpS E Φ nid { dst, op := .call { callee := .value (.func m), args := as, argTypes := ats }, type, pos, after, guard } st ld l = (slidM (E.md m) (as.toList.map st.val) st).bind fun p => if ((l.all fun t => calm st p.1 false (st.get t)) && (ld.all fun t => calm st p.1 true (st.get t) && away nid p.2 true (st.get t))) = true then evOp E Φ nid { dst, op := .call { callee := .value (.func m), args := as, argTypes := ats }, type, pos, after, guard } st else none := rfl
def slidP : AV → Option (List Nat × List Nat)
  | .ptr id _ => some ([], [id])
  | _ => none
theorem slidP_ptr {id off : Nat} : slidP (.ptr id off) = some ([], [id]) := rfl
theorem opS_store {t : TypeId} {p x : Operand} {dst : Option Nat} {type : TypeId} {pos : String} {after : Array Edge} {guard : Option (Nat × Bool)} {ld l : List Nat} :
    evOpS E Φ nid { dst, op := .store t p x, type, pos, after, guard } st ld l = (slidP (st.val p)).bind fun q => if ((l.all fun t => calm st q.1 false (st.get t)) && (ld.all fun t => calm st q.1 true (st.get t) && away nid q.2 true (st.get t))) = true then evOp E Φ nid { dst, op := .store t p x, type, pos, after, guard } st else none := by
  unfold evOpS touched slid slidP
  simp only
  cases st.val p <;> rfl
theorem slidM_io1 {a b : Nat} : slidM [.io] [.ptr a b] st = some (AV.rowss ((st.box a).getD []), [a]) := by simp [slidM, giveRows, roArgs, ioBoxes]
theorem slidM_io2 {a b : Nat} {x : AV} : slidM [.io, .ro] [.ptr a b, x] st = some (AV.rowss ((st.box a).getD []) ++ x.rows, [a]) := by simp [slidM, giveRows, roArgs, ioBoxes]
theorem away_F {v : AV} {bs : List Nat} : away nid bs false v = true := by cases v <;> rfl
theorem away_ptr {id off : Nat} {bs : List Nat} : away nid bs true (.ptr id off) = (!(decide (id ∈ bs)) && (decide (id < nid) || decide (nid + 8 ≤ id))) := rfl
theorem away_int {bs : List Nat} {ld : Bool} {k : IntKind} {n : Int} : away nid bs ld (.int k n) = true := rfl
theorem away_bool {bs : List Nat} {ld : Bool} {b : Bool} : away nid bs ld (.bool b) = true := rfl
theorem away_nils {bs : List Nat} {ld : Bool} : away nid bs ld .nils = true := rfl
theorem away_undef {bs : List Nat} {ld : Bool} : away nid bs ld .undef = true := rfl
theorem away_sl {bs : List Nat} {ld fl : Bool} {xs : List AV} : away nid bs ld (.sl fl xs) = true := rfl
theorem away_agg {bs : List Nat} {ld : Bool} {cs : List AV} : away nid bs ld (.agg cs) = true := rfl
theorem away_own {bs : List Nat} {ld fz : Bool} {id e sz : Nat} {xs : List AV} : away nid bs ld (.own id fz e sz xs) = true := rfl
theorem calm_ptr {ids : List Nat} {id off : Nat} : calm st ids false (.ptr id off) = true := rfl
def calmBox (ids : List Nat) : Option (List AV) → Bool
  | some cs => (AV.rowss cs).all fun i => !(decide (i ∈ ids))
  | none => true
theorem calmBox_some {ids : List Nat} {cs : List AV} : calmBox ids (some cs) = (AV.rowss cs).all fun i => !(decide (i ∈ ids)) := rfl
theorem calm_ptrL {ids : List Nat} {id off : Nat} : calm st ids true (.ptr id off) = calmBox ids (st.box id) := by
  unfold calm calmBox
  simp only [AV.rows, List.all_nil, Bool.true_and, Bool.not_true, Bool.false_or]
  cases st.box id <;> rfl
theorem calm_nil {ld : Bool} {v : AV} : calm st [] ld v = true := by
  unfold calm
  rw [Bool.and_eq_true]
  refine ⟨by simp, ?_⟩
  split
  · cases ld
    · rfl
    · simp only [Bool.not_true, Bool.false_or]
      split <;> simp
  · rfl
theorem calm_int {ids : List Nat} {ld : Bool} {k : IntKind} {n : Int} : calm st ids ld (.int k n) = true := rfl
theorem calm_bool {ids : List Nat} {ld : Bool} {b : Bool} : calm st ids ld (.bool b) = true := rfl
theorem calm_str {ids : List Nat} {ld : Bool} {s : ByteArray} : calm st ids ld (.str s) = true := rfl
theorem calm_nils {ids : List Nat} {ld : Bool} : calm st ids ld .nils = true := rfl
theorem calm_undef {ids : List Nat} {ld : Bool} : calm st ids ld .undef = true := rfl
theorem calm_sl {ids : List Nat} {ld fl : Bool} {xs : List AV} : calm st ids ld (.sl fl xs) = true := rfl
theorem calm_cptr {ids : List Nat} {ld : Bool} {xs : List AV} : calm st ids ld (.cptr xs) = true := rfl
theorem calm_own {ids : List Nat} {ld fz : Bool} {id e sz : Nat} {xs : List AV} : calm st ids ld (.own id fz e sz xs) = !(decide (id ∈ ids)) := by
  simp [calm, AV.rows]
theorem calm_agg {ids : List Nat} {ld : Bool} {cs : List AV} : calm st ids ld (.agg cs) = (AV.rowss cs).all fun i => !(decide (i ∈ ids)) := by
  simp [calm, AV.rows]
theorem calm_eptr {ids : List Nat} {ld d fz : Bool} {id e sz i k : Nat} {xs : List AV} : calm st ids ld (.eptr d id fz e sz xs i k) = !(decide (id ∈ ids)) := by
  simp [calm, AV.rows]
def evNil : AV → Option AV
  | .ptr id off => some (.ptr id off)
  | .cptr cs => some (.cptr cs)
  | .eptr false id fz e sz xs i off => some (.eptr false id fz e sz xs i off)
  | _ => none
theorem nil_ptr {id off : Nat} : evNil (.ptr id off) = some (.ptr id off) := rfl
theorem nil_cptr {cs : List AV} : evNil (.cptr cs) = some (.cptr cs) := rfl
theorem nil_eptr {id e sz i off : Nat} {fz : Bool} {xs : List AV} : evNil (.eptr false id fz e sz xs i off) = some (.eptr false id fz e sz xs i off) := rfl
theorem op_nilCheck {x : Operand} {dst : Option Nat} {type : TypeId} {pos : String} {after : Array Edge} {guard : Option (Nat × Bool)} : evOp E Φ nid { dst, op := .nilCheck x, type, pos, after, guard } st = thenPut st dst (evNil (st.val x)) := by
  have h : evFree E Φ st.box nid st.val (.nilCheck x) = (evNil (st.val x)).map (·, []) := by
    simp only [evFree, evNil]
    cases h : st.val x with
    | eptr d id fz e sz xs i off => cases d <;> rfl
    | _ => rfl
  show (evFree E Φ st.box nid st.val (.nilCheck x)).bind (fun (v, _) => st.put dst v) = _
  rw [h]
  simp only [thenPut]
  cases evNil (st.val x) <;> rfl
theorem gateQ_bool {b : Bool} : gateQ E Φ nid o st (some b) = match b with | true => evOpQ E Φ nid o st | false => st.put o.dst (.tup []) := by cases b <;> rfl
theorem gateP_bool {b : Bool} : gateP E Φ nid o st (some b) = match b with | true => evOpP E Φ nid o st | false => st.put o.dst (.tup []) := by cases b <;> rfl
theorem pick_bool {b : Bool} {x y : AV} : evPick x y (.bool b) = some (match b with | true => x | false => y) := by cases b <;> rfl
theorem index_slx {t : TypeId} {fl : Bool} {xs : List AV} {k : IntKind} {z : Int} (hs : isSliceT P t = true) :
    evIndexAddr P t (.sl fl xs) (.int k z) = (tiOf P t).bind fun ti => (tiOf P ti.elem).bind fun te => if 0 ≤ z then (xs[z.toNat]?).bind fun x => if x.cells.length = te.size then some (.cptr x.cells) else none else none := by simp only [evIndexAddr, hs, if_true]
theorem index_ownx {t : TypeId} {id e sz : Nat} {fz : Bool} {xs : List AV} {k : IntKind} {z : Int} (hs : isSliceT P t = true) :
    evIndexAddr P t (.own id fz e sz xs) (.int k z) = (tiOf P t).bind fun ti => (tiOf P ti.elem).bind fun te => if sz = te.size ∧ 0 ≤ z ∧ z < xs.length then some (.eptr false id fz e sz xs z.toNat 0) else none := by simp only [evIndexAddr, hs, if_true]
theorem index_ptrx {t id off : Nat} {k : IntKind} {z : Int} (hs : isSliceT P t = false) :
    evIndexAddr P t (.ptr id off) (.int k z) = (isArrayT P t).bind fun m => (tiOf P t).bind fun ti => (tiOf P ti.elem).bind fun te => if 0 ≤ z ∧ z < m then some (.ptr id (off + z.toNat * te.size)) else none := by
  simp only [evIndexAddr, hs, Bool.false_eq_true, if_false]
  cases isArrayT P t <;> rfl
theorem index_cptrx {t : Nat} {cs : List AV} {k : IntKind} {z : Int} (hs : isSliceT P t = false) :
    evIndexAddr P t (.cptr cs) (.int k z) = (isArrayT P t).bind fun m => (tiOf P t).bind fun ti => (tiOf P ti.elem).bind fun te => if 0 ≤ z ∧ z < m then some (.cptr (cs.drop (z.toNat * te.size))) else none := by
  simp only [evIndexAddr, hs, Bool.false_eq_true, if_false]
  cases isArrayT P t <;> rfl
theorem freeze_nil : St.freeze [] st = st := rfl
theorem freeze_cons {i : Nat} {r : List Nat} : St.freeze (i :: r) st = st.mapO (frzO (i :: r)) .ptr (frzE (i :: r)) := rfl
theorem scrub_nil : St.scrub [] st = st := rfl
theorem scrub_cons {i : Nat} {r : List Nat} : St.scrub (i :: r) st = st.mapO (fun id fz e sz xs => if id ∈ i :: r then .undef else .own id fz e sz xs) .ptr (fun d id fz e sz xs k off => if id ∈ i :: r then .undef else .eptr d id fz e sz xs k off) := rfl
theorem mapO_mk {f : Nat → Bool → Nat → Nat → List AV → AV} {g : Nat → Nat → AV} {h : Bool → Nat → Bool → Nat → Nat → List AV → Nat → Nat → AV} {sl : List (Nat × AV)} {bx : List (Nat × List AV)} {nx nt : Nat} {tr : Bool} :
    St.mapO f g h { sl := sl, bx := bx, nx := nx, nt := nt, tree := tr } = { sl := sl.map fun p => (p.1, p.2.mapO f g h (fun _ => .nils)), bx := bx.map fun p => (p.1, AV.mapOs f g h (fun _ => .nils) p.2), nx := nx, nt := nt, tree := tr } := rfl
def callVal (E : Env) (Φ : Phi) (nid : Nat) (dst : Option Nat) (st : St) (args : List AV) : AV → Option St
  | .clo g caps => evCall Φ (E.md g) nid g args caps dst st
  | _ => none
def callValQ (E : Env) (Φ : Phi) (nid : Nat) (dst : Option Nat) (st : St) (args : List AV) : AV → Option St
  | .clo g caps => callRoQ (E.md g) nid dst st (args ++ caps) (Φ g ((args ++ caps).map (lend st.box 4)) [])
  | _ => none
theorem callVal_clo {dst : Option Nat} {args caps : List AV} {g : Nat} : callVal E Φ nid dst st args (.clo g caps) = evCall Φ (E.md g) nid g args caps dst st := rfl
theorem callValQ_clo {dst : Option Nat} {args caps : List AV} {g : Nat} : callValQ E Φ nid dst st args (.clo g caps) = callRoQ (E.md g) nid dst st (args ++ caps) (Φ g ((args ++ caps).map (lend st.box 4)) []) := rfl
theorem op_callT {dst : Option Nat} {t : Nat} {as : Array Operand} {ts : Array TypeId} {type : TypeId} {pos : String} {after : Array Edge} {guard : Option (Nat × Bool)} :
    evOp E Φ nid { dst, op := .call { callee := .value (.tmp t), args := as, argTypes := ts }, type, pos, after, guard } st = callVal E Φ nid dst st (as.toList.map st.val) (st.val (.tmp t)) := by
  cases h : st.val (.tmp t) with
  | clo g caps => simp only [evOp, evOp0, h, callVal]
  | _ => simp only [evOp, evOp0, h, callVal]
theorem opQ_callT {dst : Option Nat} {t : Nat} {as : Array Operand} {ts : Array TypeId} {type : TypeId} {pos : String} {after : Array Edge} {guard : Option (Nat × Bool)} :
    evOpQ E Φ nid { dst, op := .call { callee := .value (.tmp t), args := as, argTypes := ts }, type, pos, after, guard } st = callValQ E Φ nid dst st (as.toList.map st.val) (st.val (.tmp t)) := by
  cases h : st.val (.tmp t) with
  | clo g caps =>
    simp only [evOpQ, h, callValQ, callRoQ]
    split
    · exact roQ
    · rfl
  | _ => simp only [evOpQ, h, callValQ]
mutual
theorem mapO_self : ∀ (v : AV), v.mapO .own .ptr .eptr (fun _ => .nils) = v
  | .agg cs => by rw [AV.mapO, mapOs_self cs]
  | .tup cs => by rw [AV.mapO, mapOs_self cs]
  | .clo n cs => by rw [AV.mapO, mapOs_self cs]
  | .undef => rfl
  | .int _ _ => rfl
  | .bool _ => rfl
  | .str _ => rfl
  | .nils => rfl
  | .sl _ _ => rfl
  | .own _ _ _ _ _ => rfl
  | .ptr _ _ => rfl
  | .eptr _ _ _ _ _ _ _ _ => rfl
  | .gone => rfl
  | .tr _ _ _ => rfl
  | .cptr _ => rfl
theorem mapOs_self : ∀ (vs : List AV), AV.mapOs .own .ptr .eptr (fun _ => .nils) vs = vs
  | [] => rfl
  | v :: vs => by rw [AV.mapOs, mapO_self v, mapOs_self vs]
end
theorem back_nil {ps : List (Nat × AV)} : St.back nid [] ps st = st := by
  have e1 : backO nid [] ps = AV.own := by funext id fz e sz xs; simp [backO]
  have e2 : backE [] = AV.eptr := by funext d id fz e sz xs i off; simp [backE]
  unfold St.back St.mapO
  rw [e1, e2]
  have h1 : (st.sl.map fun p => (p.1, p.2.mapO .own .ptr .eptr (fun _ => .nils))) = st.sl := by
    conv => rhs; rw [← List.map_id st.sl]
    exact List.map_congr_left fun p _ => by rw [mapO_self]; rfl
  have h2 : (st.bx.map fun p => (p.1, AV.mapOs .own .ptr .eptr (fun _ => .nils) p.2)) = st.bx := by
    conv => rhs; rw [← List.map_id st.bx]
    exact List.map_congr_left fun p _ => by rw [mapOs_self]; rfl
  rw [h1, h2]
theorem mode_mut : (Mode.«mut» == Mode.ro) = false := rfl
theorem mode_give : (Mode.give == Mode.ro) = false := rfl
theorem mode_io : (Mode.io == Mode.ro) = false := rfl
theorem mode_ro : (Mode.ro == Mode.ro) = true := rfl
theorem scals_ints {l : List Int} : AV.scals (l.map (AV.int .i64)) = true := by
  induction l with
  | nil => rfl
  | cons a l ih => simpa [AV.scals, AV.scal] using ih
theorem plains_ints {l : List Int} : plains (l.map (AV.int .i64)) = true := List.all_eq_true.2 fun y hy => by obtain ⟨a, _, rfl⟩ := List.mem_map.1 hy; rfl
theorem back_cons {i : Nat} {r : List Nat} {ps : List (Nat × AV)} : St.back nid (i :: r) ps st = st.mapO (backO nid (i :: r) ps) .ptr (backE (i :: r)) := rfl
theorem lend_clo {bx : Nat → Option (List AV)} {m g : Nat} {cs : List AV} : lend bx (m + 1) (.clo g cs) = .clo g (cs.map (lend bx (m + 1))) := by
  show AV.mapO _ _ _ _ _ = AV.clo g (cs.map (AV.mapO _ _ _ _))
  rw [AV.mapO, AV.mapOs_eq]
theorem lend_ptr {bx : Nat → Option (List AV)} {m id off : Nat} : lend bx (m + 1) (.ptr id off) = match bx id with | some cs => .cptr ((cs.map (lend bx m)).drop off) | none => .undef := rfl
theorem lend_cptr {bx : Nat → Option (List AV)} {m : Nat} {cs : List AV} : lend bx (m + 1) (.cptr cs) = .cptr cs := rfl
def plainK : AV → Bool
  | .int _ _ => true
  | .bool _ => true
  | .str _ => true
  | .sl _ _ => true
  | .cptr _ => true
  | _ => false
structure Plain (cs : List AV) : Prop where
  rows : AV.rowss cs = []
  boxes : AV.boxess cs = []
  map : ∀ f g h z, AV.mapOs f g h z cs = cs
  lend : ∀ bx m, cs.map (lend bx (m + 1)) = cs
theorem plain_of : ∀ {cs : List AV}, cs.all plainK = true → Plain cs
  | [], _ => ⟨rfl, rfl, fun _ _ _ _ => rfl, fun _ _ => rfl⟩
  | c :: r, h => by
    simp only [List.all_cons, Bool.and_eq_true] at h
    have ih := plain_of h.2
    have h1 : c.rows = [] ∧ c.boxes = [] ∧ (∀ f g h z, c.mapO f g h z = c) ∧ ∀ bx m, Flat.lend bx (m + 1) c = c := by
      cases c <;> simp [plainK] at h <;> exact ⟨rfl, rfl, fun _ _ _ _ => rfl, fun _ _ => rfl⟩
    exact ⟨by simp [AV.rowss, h1.1, ih.rows], by simp [AV.boxess, h1.2.1, ih.boxes], fun f g h z => by simp [AV.mapOs, h1.2.2.1, ih.map], fun bx m => by simp only [List.map_cons, h1.2.2.2, ih.lend]⟩
def evCut (P : Program) (t : TypeId) (lo hi : Option AV) : AV → Option AV
  | .str s => if isStringT P t = true then evCutStr s lo hi else none
  | .sl fl xs => if isSliceT P t = true then (tiOf P t).bind fun ti => (tiOf P ti.elem).bind fun te => evCutRow te.size fl xs lo hi else none
  | _ => none
def evCutA (P : Program) (t nid : Nat) (dst : Option Nat) (st : St) (lo hi : Option AV) : AV → Option St
  | .own id fz e sz xs => evCutOwn P t (.own id fz e sz xs) lo hi nid dst st
  | v => thenPut st dst (evCut P t lo hi v)
theorem cutA_str {t : Nat} {dst : Option Nat} {lo hi : Option AV} {s : ByteArray} : evCutA P t nid dst st lo hi (.str s) = thenPut st dst (evCut P t lo hi (.str s)) := rfl
theorem cutA_sl {t : Nat} {dst : Option Nat} {lo hi : Option AV} {fl : Bool} {xs : List AV} : evCutA P t nid dst st lo hi (.sl fl xs) = thenPut st dst (evCut P t lo hi (.sl fl xs)) := rfl
theorem cutA_own {t : Nat} {dst : Option Nat} {lo hi : Option AV} {id e sz : Nat} {fz : Bool} {xs : List AV} : evCutA P t nid dst st lo hi (.own id fz e sz xs) = evCutOwn P t (.own id fz e sz xs) lo hi nid dst st := rfl
theorem free_slice {t : TypeId} {x : Operand} {lo hi : Option Operand} {dst : Option Nat} : ((evFree E Φ st.box nid st.val (.slice t x lo hi none)).bind fun (v, _) => st.put dst v) = thenPut st dst (evCut E.P t (optAV st.val lo) (optAV st.val hi) (st.val x)) := by
  have h : evFree E Φ st.box nid st.val (.slice t x lo hi none) = (evCut E.P t (optAV st.val lo) (optAV st.val hi) (st.val x)).map (·, []) := by
    simp only [evFree, evCut]
    cases st.val x with
    | str s => simp only; split <;> simp
    | sl fl xs =>
      simp only
      split
      · cases tiOf E.P t with
        | none => rfl
        | some ti =>
          simp only [Option.bind_some]
          cases tiOf E.P ti.elem <;> rfl
      · rfl
    | _ => rfl
  rw [h]
  simp only [thenPut]
  cases evCut E.P t (optAV st.val lo) (optAV st.val hi) (st.val x) <;> rfl
theorem op_slice {t : TypeId} {x : Operand} {lo hi : Option Operand} {dst : Option Nat} {type : TypeId} {pos : String} {after : Array Edge} {guard : Option (Nat × Bool)} :
    evOp E Φ nid { dst, op := .slice t x lo hi none, type, pos, after, guard } st = evCutA E.P t nid dst st (optAV st.val lo) (optAV st.val hi) (st.val x) := by
  have h := free_slice (E := E) (Φ := Φ) (nid := nid) (st := st) (t := t) (x := x) (lo := lo) (hi := hi) (dst := dst)
  simp only [evOp, evOp0]
  cases hx : st.val x with
  | own => rfl
  | _ => rw [hx] at h; exact h
theorem opP_slice {t : TypeId} {x : Operand} {lo hi : Option Operand} {dst : Option Nat} {type : TypeId} {pos : String} {after : Array Edge} {guard : Option (Nat × Bool)} :
    evOpP E Φ nid { dst, op := .slice t x lo hi none, type, pos, after, guard } st = thenPut st dst (evCut E.P t (optAV st.val lo) (optAV st.val hi) (st.val x)) := free_slice
theorem shuts_nil : AV.shuts [] = [] := rfl
theorem shuts_cons {x : AV} {xs : List AV} : AV.shuts (x :: xs) = x.shut :: AV.shuts xs := rfl
theorem shuts_append {xs ys : List AV} : AV.shuts (xs ++ ys) = AV.shuts xs ++ AV.shuts ys := by rw [shuts_eq, shuts_eq, shuts_eq, List.map_append]
theorem shuts_same {α : Type} {f : α → AV} (h : ∀ a, (f a).shut = f a) (l : List α) : AV.shuts (l.map f) = l.map f := by
  rw [shuts_eq, List.map_map]
  exact List.map_congr_left fun a _ => h a
theorem shuts_int {k : IntKind} {l : List Int} : AV.shuts (l.map (AV.int k)) = l.map (AV.int k) := shuts_same (fun _ => rfl) l
theorem shuts_bool {l : List Bool} : AV.shuts (l.map AV.bool) = l.map AV.bool := shuts_same (fun _ => rfl) l
theorem cut_sl {t : TypeId} {fl : Bool} {xs : List AV} {lo hi : Option AV} : evCut P t lo hi (.sl fl xs) = if isSliceT P t = true then (tiOf P t).bind fun ti => (tiOf P ti.elem).bind fun te => evCutRow te.size fl xs lo hi else none := rfl
theorem cut_str {t : TypeId} {s : ByteArray} {lo hi : Option AV} : evCut P t lo hi (.str s) = if isStringT P t = true then evCutStr s lo hi else none := rfl
theorem opt_some {val : Operand → AV} {x : Operand} : optAV val (some x) = some (val x) := rfl
theorem opt_none {val : Operand → AV} : optAV val none = none := rfl
theorem natz : ((0 : Nat) : Int) = 0 := rfl
def evMin (x y : AV) : Option AV :=
  match x, y with
  | .int k a, .int k' b => if k = k' then some (.int k (if b < a then b else a)) else none
  | _, _ => none
def evMax (x y : AV) : Option AV :=
  match x, y with
  | .int k a, .int k' b => if k = k' then some (.int k (if b > a then b else a)) else none
  | _, _ => none
theorem min_int {k : IntKind} {a b : Int} : evMin (.int k a) (.int k b) = some (.int k (if b < a then b else a)) := by simp [evMin]
theorem max_int {k : IntKind} {a b : Int} : evMax (.int k a) (.int k b) = some (.int k (if b > a then b else a)) := by simp [evMax]
theorem op_min {x y : Operand} {ts : Array TypeId} {dst : Option Nat} {type : TypeId} {pos : String} {after : Array Edge} {guard : Option (Nat × Bool)} :
    evOp E Φ nid { dst, op := .call { callee := .builtin .min, args := #[x, y], argTypes := ts }, type, pos, after, guard } st = thenPut st dst (evMin (st.val x) (st.val y)) := by
  simp only [evOp, evOp0, evFree, thenPut, evMin]
  simp only [List.map_cons, List.map_nil]
  cases st.val x <;> cases st.val y <;> first | rfl | (simp only; split <;> rfl)
theorem op_max {x y : Operand} {ts : Array TypeId} {dst : Option Nat} {type : TypeId} {pos : String} {after : Array Edge} {guard : Option (Nat × Bool)} :
    evOp E Φ nid { dst, op := .call { callee := .builtin .max, args := #[x, y], argTypes := ts }, type, pos, after, guard } st = thenPut st dst (evMax (st.val x) (st.val y)) := by
  simp only [evOp, evOp0, evFree, thenPut, evMax]
  simp only [List.map_cons, List.map_nil]
  cases st.val x <;> cases st.val y <;> first | rfl | (simp only; split <;> rfl)
theorem finish_cell_tmp {a u : Nat} {t : TypeId} : finish P [] [.cell a t, .tmp u] 0 st = (evLoad P st.box t (st.get a)).bind fun v => finV (.tup [v, st.get u]) := by
  unfold finish
  simp only [resultsOf, resultOf]
  cases evLoad P st.box t (st.get a) with
  | none => rfl
  | some v => exact finW_eq (st := st) (v := .tup [v, st.get u])
def Leaf (x : Option (Exit × St)) (Q : Exit → St → Prop) : Prop :=
  match x with
  | some (e, st) => Q e st
  | none => False
theorem leaf_some {e : Exit} {Q : Exit → St → Prop} : Leaf (some (e, st)) Q = Q e st := rfl
def isNormal : Exit → Bool
  | .normal => true
  | _ => false
def loopL {α β γ : Type} (step : Nat → α → β → Sum γ β) (fin : β → γ) : Nat → List α → β → γ
  | _, [], b => fin b
  | i, x :: r, b => match step i x b with
    | .inl g => g
    | .inr b' => loopL step fin (i + 1) r b'
theorem loop_list {α β γ : Type} {c : Code} {Hd : St → Option St} (Q : γ → Option (Exit × St) → Prop) (s : List α) (step : Nat → α → β → Sum γ β) (fin : β → γ) (H : Nat → β → St) (I : Nat → β → Prop) (b0 : β)
    (hnil : ∀ b, I s.length b → Leaf (ev E Φ n f np c (H s.length b)) (fun e st => isNormal e = false ∧ Q (fin b) (some (e, st))))
    (hcons : ∀ pre x r b, s = pre ++ x :: r → I pre.length b → Leaf (ev E Φ n f np c (H pre.length b)) (fun e st => match step pre.length x b with
      | .inl g => isNormal e = false ∧ Q g (some (e, st))
      | .inr b' => e = .normal ∧ I (pre.length + 1) b' ∧ Hd st = some (H (pre.length + 1) b')))
    {K : Nat} (hK : s.length < K) {st : St} (hI : I 0 b0) (h0 : Hd st = some (H 0 b0)) : Q (loopL step fin 0 s b0) (iter (ev E Φ n f np c) Hd K st) := by
  have main : ∀ (r pre : List α) (b : β) (K : Nat) (st : St), s = pre ++ r → r.length < K → I pre.length b → Hd st = some (H pre.length b) → Q (loopL step fin pre.length r b) (iter (ev E Φ n f np c) Hd K st) := by
    intro r
    induction r with
    | nil =>
      intro pre b K st hs hK hI h0
      obtain ⟨K, rfl⟩ : ∃ j, K = j + 1 := ⟨K - 1, by omega⟩
      have hl : pre.length = s.length := by rw [hs]; simp
      rw [iter_succ h0]
      have h := hnil b (hl ▸ hI)
      rw [← hl] at h
      cases he : ev E Φ n f np c (H pre.length b) with
      | none => rw [he] at h; exact h.elim
      | some p =>
        obtain ⟨e, st'⟩ := p
        rw [he] at h
        obtain ⟨h1, h2⟩ := h
        cases e <;> first | (simp [isNormal] at h1; done) | exact h2
    | cons x r ih =>
      intro pre b K st hs hK hI h0
      obtain ⟨K, rfl⟩ : ∃ j, K = j + 1 := ⟨K - 1, by omega⟩
      rw [iter_succ h0]
      have h := hcons pre x r b hs hI
      cases he : ev E Φ n f np c (H pre.length b) with
      | none => rw [he] at h; exact h.elim
      | some p =>
        obtain ⟨e, st'⟩ := p
        rw [he] at h
        simp only [Leaf] at h
        simp only [loopL]
        cases hg : step pre.length x b with
        | inl g =>
          rw [hg] at h
          obtain ⟨h1, h2⟩ := h
          cases e <;> first | (simp [isNormal] at h1; done) | exact h2
        | inr b' =>
          rw [hg] at h
          obtain ⟨rfl, h1, h2⟩ := h
          have := ih (pre ++ [x]) b' K st' (by rw [hs]; simp) (by simp at hK; omega) (by simpa using h1) (by simpa using h2)
          rw [thenIter_normal]
          simpa using this
  exact main s [] b0 K st rfl hK hI h0
theorem loop_while {β γ : Type} {c : Code} {Hd : St → Option St} (Q : γ → Option (Exit × St) → Prop) (nxt : β → Option β) (g : β → γ) (H : β → St) (I : β → Prop) (m : β → Nat) (b0 : β)
    (hstep : ∀ b, I b → Leaf (ev E Φ n f np c (H b)) (fun e st => match nxt b with
      | none => isNormal e = false ∧ Q (g b) (some (e, st))
      | some b' => e = .normal ∧ Hd st = some (H b')))
    (hn : ∀ b b', I b → nxt b = some b' → I b' ∧ m b' < m b ∧ g b' = g b)
    {K : Nat} (hK : m b0 < K) {st : St} (hI : I b0) (h0 : Hd st = some (H b0)) : Q (g b0) (iter (ev E Φ n f np c) Hd K st) := by
  induction K generalizing b0 st with
  | zero => omega
  | succ K ih =>
    rw [iter_succ h0]
    have h := hstep b0 hI
    cases he : ev E Φ n f np c (H b0) with
    | none => rw [he] at h; exact h.elim
    | some p =>
      obtain ⟨e, st'⟩ := p
      rw [he] at h
      simp only [Leaf] at h
      cases hx : nxt b0 with
      | none =>
        rw [hx] at h
        obtain ⟨h1, h2⟩ := h
        cases e <;> first | (simp [isNormal] at h1; done) | exact h2
      | some b' =>
        rw [hx] at h
        obtain ⟨rfl, h2⟩ := h
        obtain ⟨h3, h4, h5⟩ := hn b0 b' hI hx
        rw [thenIter_normal, ← h5]
        exact ih b' (by omega) h3 h2
end
end Go.Proofs.Ytggkeechdakccaa.Flat
/-
Rules in bundles: what the proofs of equations hand to simp, under short names.
-/
namespace Go.Proofs.Ytggkeechdakccaa.Flat
theorem QS : type_of% (And.intro (And.intro (And.intro (And.intro (And.intro @List.length_cons.{0} (And.intro @List.length_nil.{0} @List.getElem?_cons_zero.{0})) (And.intro @List.getElem?_cons_succ.{0} (And.intro @Option.bind_some.{0, 0} @Option.map_some.{0, 0}))) (And.intro (And.intro @beq_true (And.intro @beq_false @decide_eq_true_eq)) (And.intro (And.intro @Bool.not_eq_true' @decide_eq_false_iff_not) (And.intro @List.map_cons.{0, 0} @List.map_nil.{0, 0})))) (And.intro (And.intro (And.intro @List.append_nil.{0} (And.intro @Bool.true_and @Bool.false_and)) (And.intro (And.intro @Bool.and_true @Bool.and_false) (And.intro @decide_true @decide_false))) (And.intro (And.intro @Bool.false_eq_true (And.intro @Bool.not_true @Bool.not_false)) (And.intro (And.intro @List.all_cons.{0} @List.all_nil.{0}) (And.intro @List.drop_zero.{0} @List.drop_succ_cons.{0}))))) (And.intro (And.intro (And.intro (And.intro @List.drop_nil.{0} (And.intro @List.take_succ_cons.{0} @List.take_zero.{0})) (And.intro (And.intro @List.take_nil.{0} @List.head?_cons.{0}) (And.intro @List.cons_append.{0} @List.nil_append.{0}))) (And.intro (And.intro @Nat.le_refl (And.intro @Nat.zero_le @List.length_take.{0})) (And.intro (And.intro @List.length_drop.{0} @and_self) (And.intro @and_true @true_and)))) (And.intro (And.intro (And.intro @Nat.zero_add (And.intro @Nat.add_zero @evCall_ro)) (And.intro (And.intro @callRoQ_ro @finish_nil) (And.intro @finish_four @finW_bool))) (And.intro (And.intro @finW_int (And.intro @finW_str @finW_agg)) (And.intro (And.intro @finW_own @finW_sl) (And.intro @finW_nils @finW_tup)))))) :=
  (And.intro (And.intro (And.intro (And.intro (And.intro @List.length_cons.{0} (And.intro @List.length_nil.{0} @List.getElem?_cons_zero.{0})) (And.intro @List.getElem?_cons_succ.{0} (And.intro @Option.bind_some.{0, 0} @Option.map_some.{0, 0}))) (And.intro (And.intro @beq_true (And.intro @beq_false @decide_eq_true_eq)) (And.intro (And.intro @Bool.not_eq_true' @decide_eq_false_iff_not) (And.intro @List.map_cons.{0, 0} @List.map_nil.{0, 0})))) (And.intro (And.intro (And.intro @List.append_nil.{0} (And.intro @Bool.true_and @Bool.false_and)) (And.intro (And.intro @Bool.and_true @Bool.and_false) (And.intro @decide_true @decide_false))) (And.intro (And.intro @Bool.false_eq_true (And.intro @Bool.not_true @Bool.not_false)) (And.intro (And.intro @List.all_cons.{0} @List.all_nil.{0}) (And.intro @List.drop_zero.{0} @List.drop_succ_cons.{0}))))) (And.intro (And.intro (And.intro (And.intro @List.drop_nil.{0} (And.intro @List.take_succ_cons.{0} @List.take_zero.{0})) (And.intro (And.intro @List.take_nil.{0} @List.head?_cons.{0}) (And.intro @List.cons_append.{0} @List.nil_append.{0}))) (And.intro (And.intro @Nat.le_refl (And.intro @Nat.zero_le @List.length_take.{0})) (And.intro (And.intro @List.length_drop.{0} @and_self) (And.intro @and_true @true_and)))) (And.intro (And.intro (And.intro @Nat.zero_add (And.intro @Nat.add_zero @evCall_ro)) (And.intro (And.intro @callRoQ_ro @finish_nil) (And.intro @finish_four @finW_bool))) (And.intro (And.intro @finW_int (And.intro @finW_str @finW_agg)) (And.intro (And.intro @finW_own @finW_sl) (And.intro @finW_nils @finW_tup))))))
theorem QN : type_of% (And.intro (And.intro (And.intro @Bool.true_or @Bool.false_or) (And.intro @Bool.or_true (And.intro @Bool.or_false @Int.toNat_natCast))) (And.intro (And.intro @Int.natCast_nonneg @List.getElem?_map.{0, 0}) (And.intro @List.length_map.{0, 0} (And.intro @Int.lt_irrefl @Int.toNat_zero)))) :=
  (And.intro (And.intro (And.intro @Bool.true_or @Bool.false_or) (And.intro @Bool.or_true (And.intro @Bool.or_false @Int.toNat_natCast))) (And.intro (And.intro @Int.natCast_nonneg @List.getElem?_map.{0, 0}) (And.intro @List.length_map.{0, 0} (And.intro @Int.lt_irrefl @Int.toNat_zero))))
theorem QG : type_of% (And.intro (And.intro (And.intro (And.intro @List.range_zero @List.range_succ) (And.intro @List.flatMap_cons.{0, 0} (And.intro @List.flatMap_nil.{0, 0} @List.filter_nil.{0}))) (And.intro (And.intro @List.filter_cons.{0} @List.mem_cons.{0}) (And.intro @List.not_mem_nil.{0} (And.intro @or_false @false_or)))) (And.intro (And.intro (And.intro @or_true @true_or) (And.intro @decide_not (And.intro @ne_eq.{0} @not_true_eq_false))) (And.intro (And.intro @not_false_eq_true @Option.isSome_some.{0}) (And.intro @Option.getD_some.{0} (And.intro @Option.getD_none.{0} @beq_self_eq_true.{0}))))) :=
  (And.intro (And.intro (And.intro (And.intro @List.range_zero @List.range_succ) (And.intro @List.flatMap_cons.{0, 0} (And.intro @List.flatMap_nil.{0, 0} @List.filter_nil.{0}))) (And.intro (And.intro @List.filter_cons.{0} @List.mem_cons.{0}) (And.intro @List.not_mem_nil.{0} (And.intro @or_false @false_or)))) (And.intro (And.intro (And.intro @or_true @true_or) (And.intro @decide_not (And.intro @ne_eq.{0} @not_true_eq_false))) (And.intro (And.intro @not_false_eq_true @Option.isSome_some.{0}) (And.intro @Option.getD_some.{0} (And.intro @Option.getD_none.{0} @beq_self_eq_true.{0})))))
theorem QO : type_of% (And.intro (And.intro (And.intro @List.size_toArray.{0} (And.intro @Bool.or_false @Bool.false_or)) (And.intro (And.intro @Bool.or_self @List.any_cons.{0}) (And.intro @List.any_nil.{0} @List.headD_cons.{0}))) (And.intro (And.intro (And.intro @List.flatMap_nil.{0, 0} @List.flatMap_cons.{0, 0}) (And.intro @List.mem_cons.{0} @List.not_mem_nil.{0})) (And.intro (And.intro @or_false @false_or) (And.intro @or_true @true_or)))) :=
  (And.intro (And.intro (And.intro @List.size_toArray.{0} (And.intro @Bool.or_false @Bool.false_or)) (And.intro (And.intro @Bool.or_self @List.any_cons.{0}) (And.intro @List.any_nil.{0} @List.headD_cons.{0}))) (And.intro (And.intro (And.intro @List.flatMap_nil.{0, 0} @List.flatMap_cons.{0, 0}) (And.intro @List.mem_cons.{0} @List.not_mem_nil.{0})) (And.intro (And.intro @or_false @false_or) (And.intro @or_true @true_or))))
theorem ZRS : type_of% (And.intro (And.intro (And.intro @numbered.eq_1 @numbered.eq_2) (And.intro @eqK.eq_1 @eqK.eq_2)) (And.intro (And.intro @eqK.eq_3 @eqK.eq_4) (And.intro @eqK.eq_5 (And.intro @ofCells.eq_1 @ofCells.eq_2)))) :=
  (And.intro (And.intro (And.intro @numbered.eq_1 @numbered.eq_2) (And.intro @eqK.eq_1 @eqK.eq_2)) (And.intro (And.intro @eqK.eq_3 @eqK.eq_4) (And.intro @eqK.eq_5 (And.intro @ofCells.eq_1 @ofCells.eq_2))))
theorem ZDS : type_of% (And.intro (And.intro (And.intro @wanted.eq_def (And.intro @plainC.eq_def @plainS.eq_def)) (And.intro @evEq.eq_def (And.intro @evBox.eq_def @evAlloc.eq_def))) (And.intro (And.intro @evStore.eq_def (And.intro @evLoad.eq_def @evFieldAddr.eq_def)) (And.intro @behind.eq_def (And.intro @takeVal.eq_def @ofCell.eq_def)))) :=
  (And.intro (And.intro (And.intro @wanted.eq_def (And.intro @plainC.eq_def @plainS.eq_def)) (And.intro @evEq.eq_def (And.intro @evBox.eq_def @evAlloc.eq_def))) (And.intro (And.intro @evStore.eq_def (And.intro @evLoad.eq_def @evFieldAddr.eq_def)) (And.intro @behind.eq_def (And.intro @takeVal.eq_def @ofCell.eq_def))))
theorem ZRG : type_of% (And.intro (And.intro (And.intro (And.intro (And.intro @firstRegion.eq_1 @firstRegion.eq_2) (And.intro @firstRegion.eq_3 (And.intro @firstRegion.eq_4 @firstRegion.eq_5))) (And.intro (And.intro @firstRegion.eq_6 (And.intro @firstRegion.eq_7 @firstRegion.eq_8)) (And.intro @dedup.eq_1 (And.intro @dedup.eq_2 @nodupB.eq_1)))) (And.intro (And.intro (And.intro @nodupB.eq_2 @idx.eq_1) (And.intro @idx.eq_2 (And.intro @AV.boxes.eq_1 @AV.boxes.eq_2))) (And.intro (And.intro @AV.boxes.eq_3 (And.intro @AV.boxes.eq_4 @AV.boxes.eq_5)) (And.intro @AV.boxess.eq_1 (And.intro @AV.boxess.eq_2 @AV.rows.eq_1))))) (And.intro (And.intro (And.intro (And.intro @AV.rows.eq_2 @AV.rows.eq_3) (And.intro @AV.rows.eq_4 (And.intro @AV.rows.eq_5 @AV.rows.eq_6))) (And.intro (And.intro @AV.rowss.eq_1 (And.intro @AV.rowss.eq_2 @AV.mapO.eq_1)) (And.intro @AV.mapO.eq_2 (And.intro @AV.mapO.eq_3 @AV.mapO.eq_4)))) (And.intro (And.intro (And.intro @AV.mapO.eq_5 (And.intro @AV.mapO.eq_6 @AV.mapO.eq_7)) (And.intro @AV.mapO.eq_8 (And.intro @AV.mapO.eq_9 @AV.mapO.eq_10))) (And.intro (And.intro @AV.mapO.eq_11 (And.intro @AV.mapO.eq_12 @AV.mapO.eq_13)) (And.intro @AV.mapO.eq_14 (And.intro @AV.mapOs.eq_1 @AV.mapOs.eq_2)))))) :=
  (And.intro (And.intro (And.intro (And.intro (And.intro @firstRegion.eq_1 @firstRegion.eq_2) (And.intro @firstRegion.eq_3 (And.intro @firstRegion.eq_4 @firstRegion.eq_5))) (And.intro (And.intro @firstRegion.eq_6 (And.intro @firstRegion.eq_7 @firstRegion.eq_8)) (And.intro @dedup.eq_1 (And.intro @dedup.eq_2 @nodupB.eq_1)))) (And.intro (And.intro (And.intro @nodupB.eq_2 @idx.eq_1) (And.intro @idx.eq_2 (And.intro @AV.boxes.eq_1 @AV.boxes.eq_2))) (And.intro (And.intro @AV.boxes.eq_3 (And.intro @AV.boxes.eq_4 @AV.boxes.eq_5)) (And.intro @AV.boxess.eq_1 (And.intro @AV.boxess.eq_2 @AV.rows.eq_1))))) (And.intro (And.intro (And.intro (And.intro @AV.rows.eq_2 @AV.rows.eq_3) (And.intro @AV.rows.eq_4 (And.intro @AV.rows.eq_5 @AV.rows.eq_6))) (And.intro (And.intro @AV.rowss.eq_1 (And.intro @AV.rowss.eq_2 @AV.mapO.eq_1)) (And.intro @AV.mapO.eq_2 (And.intro @AV.mapO.eq_3 @AV.mapO.eq_4)))) (And.intro (And.intro (And.intro @AV.mapO.eq_5 (And.intro @AV.mapO.eq_6 @AV.mapO.eq_7)) (And.intro @AV.mapO.eq_8 (And.intro @AV.mapO.eq_9 @AV.mapO.eq_10))) (And.intro (And.intro @AV.mapO.eq_11 (And.intro @AV.mapO.eq_12 @AV.mapO.eq_13)) (And.intro @AV.mapO.eq_14 (And.intro @AV.mapOs.eq_1 @AV.mapOs.eq_2))))))
theorem ZDG : type_of% (And.intro (And.intro @gc.eq_def @keptBoxes.eq_def) (And.intro @keptRows.eq_def @renameB.eq_def)) :=
  (And.intro (And.intro @gc.eq_def @keptBoxes.eq_def) (And.intro @keptRows.eq_def @renameB.eq_def))
theorem ZRO : type_of% (And.intro (And.intro (And.intro (And.intro @AV.subs.eq_1 (And.intro @AV.subs.eq_2 @AV.subs.eq_3)) (And.intro @AV.shut.eq_1 (And.intro @AV.shut.eq_2 @AV.shut.eq_3))) (And.intro (And.intro @AV.scal.eq_1 (And.intro @AV.scal.eq_2 @AV.scal.eq_3)) (And.intro (And.intro @AV.scal.eq_4 @AV.scal.eq_5) (And.intro @AV.scal.eq_6 @AV.scal.eq_7)))) (And.intro (And.intro (And.intro @AV.scal.eq_8 (And.intro @AV.scals.eq_1 @AV.scals.eq_2)) (And.intro @elemsOf.eq_1 (And.intro @elemsOf.eq_2 @fillCells.eq_1))) (And.intro (And.intro @fillCells.eq_2 (And.intro @AV.any.eq_1 @AV.any.eq_2)) (And.intro (And.intro @AV.any.eq_3 @AV.any.eq_4) (And.intro @AV.anys.eq_1 @AV.anys.eq_2))))) :=
  (And.intro (And.intro (And.intro (And.intro @AV.subs.eq_1 (And.intro @AV.subs.eq_2 @AV.subs.eq_3)) (And.intro @AV.shut.eq_1 (And.intro @AV.shut.eq_2 @AV.shut.eq_3))) (And.intro (And.intro @AV.scal.eq_1 (And.intro @AV.scal.eq_2 @AV.scal.eq_3)) (And.intro (And.intro @AV.scal.eq_4 @AV.scal.eq_5) (And.intro @AV.scal.eq_6 @AV.scal.eq_7)))) (And.intro (And.intro (And.intro @AV.scal.eq_8 (And.intro @AV.scals.eq_1 @AV.scals.eq_2)) (And.intro @elemsOf.eq_1 (And.intro @elemsOf.eq_2 @fillCells.eq_1))) (And.intro (And.intro @fillCells.eq_2 (And.intro @AV.any.eq_1 @AV.any.eq_2)) (And.intro (And.intro @AV.any.eq_3 @AV.any.eq_4) (And.intro @AV.anys.eq_1 @AV.anys.eq_2)))))
theorem ZDO : type_of% (And.intro (And.intro (And.intro (And.intro @frzO.eq_def @frzE.eq_def) (And.intro @AV.laid.eq_def @AV.treeV.eq_def)) (And.intro (And.intro @AV.treeC.eq_def @St.laid.eq_def) (And.intro @spent.eq_def (And.intro @evBuildSlice.eq_def @zeroOK.eq_def)))) (And.intro (And.intro (And.intro @import_.eq_def @St.setRow.eq_def) (And.intro @AV.shutV.eq_def (And.intro @rebuild.eq_def @isAggV.eq_def))) (And.intro (And.intro @evBuild.eq_def @evCutOwn.eq_def) (And.intro @small.eq_def (And.intro @finV.eq_def @rename.eq_def))))) :=
  (And.intro (And.intro (And.intro (And.intro @frzO.eq_def @frzE.eq_def) (And.intro @AV.laid.eq_def @AV.treeV.eq_def)) (And.intro (And.intro @AV.treeC.eq_def @St.laid.eq_def) (And.intro @spent.eq_def (And.intro @evBuildSlice.eq_def @zeroOK.eq_def)))) (And.intro (And.intro (And.intro @import_.eq_def @St.setRow.eq_def) (And.intro @AV.shutV.eq_def (And.intro @rebuild.eq_def @isAggV.eq_def))) (And.intro (And.intro @evBuild.eq_def @evCutOwn.eq_def) (And.intro @small.eq_def (And.intro @finV.eq_def @rename.eq_def)))))
end Go.Proofs.Ytggkeechdakccaa.Flat
