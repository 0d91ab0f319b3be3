/-
The evaluator, second part: operations that change the state, regions, code, calls. Definitions alone.
-/
import Derived.Test.YtgckhjcfcandmaaFlatA
set_option linter.unusedVariables false
set_option linter.unusedSimpArgs false
namespace Go.Proofs.Ytgckhjcfcandmaa.Flat

/-! ### changes of all that names a row -/
def numbered {α : Type} : Nat → List α → List (Nat × α)
  | _, [] => []
  | n, x :: xs => (n, x) :: numbered (n + 1) xs
def St.mapO (f : Nat → Bool → Nat → Nat → List AV → AV) (g : Nat → Nat → AV) (h : Nat → Bool → Nat → Nat → List AV → Nat → Nat → AV) (st : St) : St :=
  { st with sl := st.sl.map fun p => (p.1, p.2.mapO f g h (fun _ => .nils)), bx := st.bx.map fun p => (p.1, AV.mapOs f g h (fun _ => .nils) p.2) }
/-- The rows in ids are named no more. -/
def St.scrub (ids : List Nat) (st : St) : St :=
  match ids with
  | [] => st
  | ids => st.mapO (fun id fz e sz xs => if id ∈ ids then .undef else .own id fz e sz xs) .ptr (fun id fz e sz xs i off => if id ∈ ids then .undef else .eptr id fz e sz xs i off)
/-- The rows in ids may be read by anybody from now on: no element of theirs is written any more. -/
def St.freeze (ids : List Nat) (st : St) : St :=
  match ids with
  | [] => st
  | ids => st.mapO (fun id fz e sz xs => .own id (fz || decide (id ∈ ids)) e sz xs) .ptr (fun id fz e sz xs i off => .eptr id (fz || decide (id ∈ ids)) e sz xs i off)
/-- An element of row id has been written. -/
def St.setRow (id : Nat) (xs' : List AV) (st : St) : St :=
  st.mapO (fun i fz e sz xs => if i = id then .own i fz e sz xs' else .own i fz e sz xs) .ptr (fun i fz e sz xs k off => if i = id then .undef else .eptr i fz e sz xs k off)
/-- A value that goes into a row: rows in it are read from now on. -/
def AV.shutV (v : AV) : AV := v.mapO (fun _ _ _ _ xs => .sl true xs) (fun _ _ => .undef) (fun _ _ _ _ _ _ _ => .undef) (fun _ => .sl true [])
def St.box (st : St) (id : Nat) : Option (List AV) := look id st.bx
def St.setBox (st : St) (id : Nat) (cs : List AV) : St := { st with bx := (id, cs) :: st.bx }

def evAlloc (P : Program) (t nid : Nat) (dst : Option Nat) (st : St) : Option St :=
  (tiOf P t).bind fun ti => ti.zero.bind fun z => (ofCells z.cells.toList).bind fun cs => (st.setBox nid cs).put dst (.ptr nid 0)
def evBox (nid : Nat) (dst : Option Nat) (x : AV) (st : St) : Option St :=
  if x.cells.all AV.isCell then (st.setBox nid x.cells).put dst (.ptr nid 0) else none
/-- An element out of its cells: as it was. -/
def rebuild (y : AV) (c : List AV) : AV :=
  match y with
  | .agg _ => .agg c
  | _ => c.headD .undef
def evStore (P : Program) (t : Nat) (p x : AV) (dst : Option Nat) (st : St) : Option St :=
  (tiOf P t).bind fun ti => if x.cells.length = ti.size ∧ x.cells.all AV.isCell then
    match p with
    | .ptr id off => (st.box id).bind fun cs => if off + ti.size ≤ cs.length then (st.setBox id (cs.take off ++ x.cells ++ cs.drop (off + ti.size))).put dst .undef else none
    | .eptr id false _ _ xs i off => (xs[i]?).bind fun y =>
        let c := y.cells.take off ++ x.shutV.cells ++ y.cells.drop (off + ti.size)
        if off + ti.size ≤ y.cells.length ∧ x.shutV.cells.all AV.isCell ∧ id ∉ x.rows then
          ((st.freeze x.rows).setRow id (xs.set i (rebuild y c))).put dst .undef
        else none
    | _ => none
  else none
/-- Is the zero value of a type known, and as wide as the type? -/
def zeroOK (te : TI) : Bool :=
  match te.zero with
  | some z => decide (z.cells.size = te.size)
  | none => false
def isAggV : AV → Bool
  | .agg _ => true
  | _ => false
/-- The elements of a row literal: all places, in order. -/
def elemsOf (agg : Bool) (size : Nat) : Nat → List (Nat × AV) → Option (List AV)
  | _, [] => some []
  | k, (i, x) :: r => if i = k ∧ x.shutV.cells.length = size ∧ x.shutV.cells.all AV.isCell ∧ isAggV x = agg then (elemsOf agg size (k + 1) r).map (x.shutV :: ·) else none
def evBuildSlice (P : Program) (t len : Nat) (parts : List (Nat × AV)) (nid : Nat) (dst : Option Nat) (st : St) : Option St :=
  if isSliceT P t then (tiOf P t).bind fun ti => (tiOf P ti.elem).bind fun te => (elemsOf te.agg te.size 0 parts).bind fun xs =>
    if parts.length = len ∧ len * te.size ≤ 16777216 ∧ 0 < te.size ∧ zeroOK te then (st.freeze (parts.flatMap fun p => p.2.rows)).put dst (.own nid false ti.elem te.size xs) else none
  else none
def zeroElem (te : TI) : Option AV :=
  te.zero.bind fun z => (ofCells z.cells.toList).bind fun cs => if cs.length = te.size then (if te.agg then some (AV.shutV (.agg cs)) else (match cs with | [c] => some c.shutV | _ => none)) else none
def evMakeSlice (P : Program) (t : Nat) (l c : AV) (nid : Nat) (dst : Option Nat) (st : St) : Option St :=
  if isSliceT P t then (tiOf P t).bind fun ti => (tiOf P ti.elem).bind fun te => (zeroElem te).bind fun z =>
    match l, c with
    | .int _ n, .int _ m => if n = m ∧ 0 ≤ n ∧ te.bytes * n.toNat ≤ 281474976710656 ∧ n.toNat ≤ 9223372036854775807 ∧ 0 < te.size then st.put dst (.own nid false ti.elem te.size (List.replicate n.toNat z)) else none
    | _, _ => none
  else none
/-- What a row that is appended holds. -/
def rowOf : AV → Option (List AV)
  | .nils => some []
  | .sl _ xs => some xs
  | .own _ _ _ _ xs => some xs
  | _ => none
def evAppend (P : Program) (t u : Nat) (s x : AV) (nid : Nat) (dst : Option Nat) (st : St) : Option St :=
  if isSliceT P t ∧ u = t then (tiOf P t).bind fun ti => (tiOf P ti.elem).bind fun te => (rowOf x).bind fun ys =>
    if (ys.all fun y => decide (y.cells.length = te.size)) ∧ 0 < te.size ∧ zeroOK te then
      match s with
      | .nils => if ys.length * te.bytes ≤ 140737488355328 ∧ ys.length ≤ 9223372036854775807 then st.put dst (match ys with | [] => .nils | ys => .own nid false ti.elem te.size ys) else none
      | .own id fz e sz' xs => if e = ti.elem ∧ sz' = te.size ∧ (xs.length + ys.length) * te.bytes ≤ 140737488355328 ∧ xs.length + ys.length ≤ 9223372036854775807 then (st.scrub [id]).put dst (.own nid fz e sz' (xs ++ ys)) else none
      | _ => none
    else none
  else none

/-! ### calls -/
abbrev Phi := Nat → List AV → List (List AV) → Option (AV × List (List AV))
/-- How a parameter is handed on: read · the row itself · a variable. -/
inductive Mode where
  | ro | give | mut | io
deriving DecidableEq
def lend (bx : Nat → Option (List AV)) : Nat → AV → AV
  | 0, _ => .undef
  | n + 1, v => v.mapO (fun _ _ _ _ xs => .sl true xs)
      (fun id off => match bx id with | some cs => .cptr ((cs.map (lend bx n)).drop off) | none => .undef)
      (fun _ _ _ _ xs i off => match xs[i]? with | some x => .cptr (x.cells.drop off) | none => .undef)
      (fun _ => .sl true [])
def isPtr : AV → Bool
  | .ptr _ _ => true
  | .eptr _ _ _ _ _ _ _ => true
  | _ => false
def isScal : AV → Bool
  | .int _ _ => true
  | .bool _ => true
  | .str _ => true
  | .nils => true
  | _ => false
/-- A node that leads to memory that is read. -/
def isRef : AV → Bool
  | .sl _ (_ :: _) => true
  | .cptr _ => true
  | .own _ _ _ _ xs => !(xs.all fun x => x.cells.all isScal)
  | _ => false
def noref (v : AV) : Bool := !v.any isRef
def import_ (nid : Nat) (v : AV) : AV := v.mapO (fun id fz e sz xs => .own (nid + id) fz e sz xs) (fun _ _ => .undef) (fun _ _ _ _ _ _ _ => .undef) (fun _ => .nils)
def small (v : AV) : Bool := v.rows.all fun i => decide (i < 8)

/-- A call that only reads what it is handed: its answer, and the rows that it leads to from now on. -/
def evRo (Φ : Phi) (bx : Nat → Option (List AV)) (nid f : Nat) (args : List AV) : Option (AV × List Nat) :=
  (Φ f (args.map (lend bx 4)) []).bind fun (ret, ios) =>
    match ios with
    | [] => if small ret then
        (if noref ret then some (import_ nid ret, []) else if args.any (·.any isPtr) then none else some (import_ nid ret, args.flatMap AV.rows))
      else none
    | _ => none
def idx (l : List Nat) (i : Nat) : Nat := match l with
  | [] => 0
  | j :: r => if i = j then 0 else idx r i + 1
def nodupB : List Nat → Bool
  | [] => true
  | i :: r => !(decide (i ∈ r)) && nodupB r
def dedup : List Nat → List Nat
  | [] => []
  | i :: r => i :: (dedup r).filter (· ≠ i)
def giveRows (bx : Nat → Option (List AV)) : List (Mode × AV) → List Nat
  | [] => []
  | (.give, v) :: r => v.rows ++ giveRows bx r
  | (.mut, v) :: r => v.rows ++ giveRows bx r
  | (.io, .ptr id _) :: r => AV.rowss ((bx id).getD []) ++ giveRows bx r
  | _ :: r => giveRows bx r
def ioBoxes : List (Mode × AV) → List Nat
  | [] => []
  | (.io, .ptr id _) :: r => id :: ioBoxes r
  | _ :: r => ioBoxes r
def roArgs : List (Mode × AV) → List AV
  | [] => []
  | (.ro, v) :: r => v :: roArgs r
  | _ :: r => roArgs r
def rename (g : List Nat) (v : AV) : AV := v.mapO (fun id fz e sz xs => .own (idx g id) fz e sz xs) (fun _ _ => .undef) (fun _ _ _ _ _ _ _ => .undef) (fun _ => .nils)
def handArg (bx : Nat → Option (List AV)) (g hs : List Nat) : Mode × AV → AV
  | (.ro, v) => lend bx 4 v
  | (.give, v) => rename g v
  | (.mut, v) => rename g v
  | (.io, .ptr id 0) => .ptr (idx hs id) 0
  | _ => .undef
/-- The rows that a call changes in place: each argument, handed back. -/
def mutArgs : List (Mode × AV) → List AV
  | [] => []
  | (.mut, v) :: r => v :: mutArgs r
  | _ :: r => mutArgs r
/-- The rows' new elements; nothing where a row has not come back. -/
def backs (g : List Nat) : List AV → List (List AV) → Option (List (Nat × Bool × List AV))
  | [], [] => some []
  | .own id _ e sz xs :: r, [.own j fz' e' sz' xs'] :: s => if j = idx g id ∧ e = e' ∧ sz = sz' ∧ xs.length = xs'.length then (backs g r s).map ((id, fz', xs') :: ·) else none
  | .nils :: r, [.nils] :: s => backs g r s
  | .sl _ [] :: r, [.sl _ []] :: s => backs g r s
  | _, _ => none
def St.back (bs : List (Nat × Bool × List AV)) (st : St) : St :=
  match bs with
  | [] => st
  | bs => st.mapO (fun id fz e sz xs => match look id bs with | some (fz', xs') => .own id fz' e sz xs' | none => .own id fz e sz xs) .ptr (fun id fz e sz xs i off => match look id bs with | some _ => .undef | none => .eptr id fz e sz xs i off)
def setBoxes (nid : Nat) : List Nat → List (List AV) → St → St
  | id :: ids, cs :: css, st => setBoxes nid ids css (st.setBox id (cs.map (import_ nid)))
  | _, _, st => st
def evGive (Φ : Phi) (nid f : Nat) (args : List (Mode × AV)) (dst : Option Nat) (st : St) : Option St :=
  let g := giveRows st.box args
  let hs := ioBoxes args
  let ms := mutArgs args
  if nodupB g ∧ nodupB hs ∧ (roArgs args).all (fun v => !(v.any isPtr) && v.rows.all fun r => !(decide (r ∈ g))) then
    (Φ f (args.map (handArg st.box g hs)) (hs.map fun id => ((st.box id).getD []).map (rename g))).bind fun (ret, fin) =>
      let ios := fin.take hs.length
      (backs g ms (fin.drop hs.length)).bind fun bs =>
      if fin.length = hs.length + ms.length ∧ small ret ∧ ios.all (fun cs => cs.all small) ∧ (bs = [] ∨ ret.rows ++ ios.flatMap AV.rowss = []) then
        (setBoxes nid hs ios (((st.freeze (if noref ret && ios.all (fun cs => cs.all noref) && bs.all (fun b => b.2.2.all fun x => x.cells.all isScal) then [] else (roArgs args).flatMap AV.rows)).scrub (g.filter fun r => !(decide (r ∈ bs.map (·.1))))).back bs)).put dst (import_ nid ret)
      else none
  else none
/-- What leads to memory that has just been written over is told no more. -/
def stays (ids : List Nat) : AV → Bool
  | .own id fz _ _ xs => !(decide (id ∈ ids)) && !fz && (xs.all fun x => x.cells.all isScal)
  | .eptr _ _ _ _ _ _ _ => false
  | .sl true (_ :: _) => false
  | .cptr _ => false
  | .clo _ _ => false
  | _ => true
def clear (ids : List Nat) (v : AV) : AV := if v.any (fun x => !stays ids x) then .undef else v
/-- A call that writes over all that its arguments lead to (and over nothing else but what is read since this call began). -/
def evKill (Φ : Phi) (f : Nat) (args : List AV) (dst : Option Nat) (st : St) : Option St :=
  if args.all (fun v => !(v.any isPtr)) then
    (Φ f (args.map (lend st.box 4)) []).bind fun (ret, ios) =>
      if isScal ret ∧ ios = [] then
        ({ st with sl := st.sl.map fun p => (p.1, clear (args.flatMap AV.rows) p.2),
                   bx := st.bx.map fun p => (p.1, p.2.map (clear (args.flatMap AV.rows))) } : St).put dst ret
      else none
  else none

structure Env where
  P : Program
  md : Nat → List Mode
  keep : Nat → Nat → List Nat
  kill : Nat → Bool
  /-- The order in which a region is evaluated whose order the machine may choose. -/
  plan : Nat → Nat → List (Bool × Nat)
  ok : Nat → Bool

def optAV (val : Operand → AV) : Option Operand → Option AV
  | some x => some (val x)
  | none => none
/-- An operation that changes nothing that was there. -/
def evFree (E : Env) (Φ : Phi) (bx : Nat → Option (List AV)) (nid : Nat) (val : Operand → AV) (op : Op) : Option (AV × List Nat) :=
  match op with
  | .move x => some (val x, [])
  | .assign x => some (val x, [])
  | .pick c a b => match val c with
    | .bool t => some (if t then val a else val b, [])
    | _ => none
  | .load t p => (evLoad E.P bx t (val p)).map (·, [])
  | .binOp op t x y _ => match val x, val y with
    | .agg a, .agg b => (evEq E.P t a b).bind fun r => (match op with | .eql => some (.bool r, []) | .neq => some (.bool (!r), []) | _ => none)
    | a, b => (evBin E.P op t a b).map (·, [])
  | .unOp op _ x => (evUn op (val x)).map (·, [])
  | .convert s d x => (evConvert E.P s d (val x)).map (·, [])
  | .fieldAddr t p f => (evFieldAddr E.P t (val p) f).map (·, [])
  | .field t x f => (evField E.P t (val x) f).map (·, [])
  | .indexAddr t x i => (evIndexAddr E.P t (val x) (val i)).map (·, [])
  | .index t x i => (evIndex E.P t (val x) (val i)).map (·, [])
  | .extract x i => match val x with
    | .tup vs => (vs[i]?).map (·, [])
    | _ => none
  | .build t ps => (evBuild E.P t (ps.toList.map fun p => (p.1, val p.2))).map (·, [])
  | .nilCheck x => match val x with
    | .ptr id off => some (.ptr id off, [])
    | .cptr cs => some (.cptr cs, [])
    | .eptr id fz e sz xs i off => some (.eptr id fz e sz xs i off, [])
    | _ => none
  | .slice t x lo hi none => match val x with
    | .str s => if isStringT E.P t then (evCutStr s (optAV val lo) (optAV val hi)).map (·, []) else none
    | .sl fl xs => if isSliceT E.P t then (tiOf E.P t).bind fun ti => (tiOf E.P ti.elem).bind fun te => (evCutRow te.size fl xs (optAV val lo) (optAV val hi)).map (·, []) else none
    | _ => none
  | .makeFunc (.func f) first cs => if first.size = 0 then some (.clo f (cs.toList.map val), []) else none
  | .call c => match c.callee with
    | .builtin .len => match c.args.toList, c.argTypes[0]? with
      | [x], some t => (evLen E.P t (val x)).map (·, [])
      | _, _ => none
    | .builtin .min => match c.args.toList.map val with
      | [.int k a, .int k' b] => if k = k' then some (.int k (if b < a then b else a), []) else none
      | _ => none
    | .builtin .max => match c.args.toList.map val with
      | [.int k a, .int k' b] => if k = k' then some (.int k (if b > a then b else a), []) else none
      | _ => none
    | .value f => match val f with
      | .clo n caps => if E.kill n = false ∧ (E.md n).all (· == .ro) then evRo Φ bx nid n (c.args.toList.map val ++ caps) else none
      | _ => none
    | _ => none
  | _ => none
/-- Any operation. -/
def evOp (E : Env) (Φ : Phi) (nid : Nat) (o : Oper) (st : St) : Option St :=
  match o.op with
  | .alloc t => evAlloc E.P t nid o.dst st
  | .box _ x => evBox nid o.dst (st.val x) st
  | .store t p x => evStore E.P t (st.val p) (st.val x) o.dst st
  | .buildSlice t len ps => evBuildSlice E.P t len (ps.toList.map fun p => (p.1, st.val p.2)) nid o.dst st
  | .makeSlice t l c => evMakeSlice E.P t (st.val l) (st.val c) nid o.dst st
  | .call { callee := .builtin .append, args := as, argTypes := ts } => match as.toList, ts.toList with
    | [s, x], [t, u] => evAppend E.P t u (st.val s) (st.val x) nid o.dst st
    | _, _ => none
  | .call { callee := .value f, args := as, .. } => match st.val f with
    | .clo n caps => if E.kill n then (match caps with | [] => evKill Φ n (as.toList.map st.val) o.dst st | _ => none)
      else if (E.md n).all (· == .ro) then (evRo Φ st.box nid n (as.toList.map st.val ++ caps)).bind fun (v, ids) => (st.freeze ids).put o.dst v
      else match caps with
        | [] => if (E.md n).length = as.size then evGive Φ nid n ((E.md n).zip (as.toList.map st.val)) o.dst st else none
        | _ => none
    | _ => none
  | op => (evFree E Φ st.box nid st.val op).bind fun (v, _) => st.put o.dst v
/-- Is it carried out? -/
def wanted (ops : List Oper) (o : Oper) (st : St) : Option Bool :=
  match o.guard with
  | none => some true
  | some (j, b) => match (ops[j]?).bind (·.dst) with
    | some d => match st.get d with
      | .bool t => some (t == b)
      | _ => none
    | none => none
def evOps (E : Env) (Φ : Phi) (all : List Oper) : Nat → List Oper → St → Option St
  | _, [], st => some st
  | nid, o :: r, st => (wanted all o st).bind fun t =>
      if t then (evOp E Φ nid o st).bind fun st => evOps E Φ all (nid + 8) r st
      else (st.put o.dst .undef).bind fun st => evOps E Φ all (nid + 8) r st
/-- An operation that changes nothing of what is told already. -/
def evOpQ (E : Env) (Φ : Phi) (nid : Nat) (o : Oper) (st : St) : Option St :=
  match o.op with
  | .alloc t => evAlloc E.P t nid o.dst st
  | .box _ x => evBox nid o.dst (st.val x) st
  | .buildSlice t len ps => if (ps.toList.flatMap fun p => (st.val p.2).rows) = [] then evBuildSlice E.P t len (ps.toList.map fun p => (p.1, st.val p.2)) nid o.dst st else none
  | .makeSlice t l c => evMakeSlice E.P t (st.val l) (st.val c) nid o.dst st
  | .call { callee := .builtin .append, args := as, argTypes := ts } => match as.toList, ts.toList with
    | [s, x], [t, u] => (match st.val s with
      | .nils => evAppend E.P t u .nils (st.val x) nid o.dst st
      | _ => none)
    | _, _ => none
  | .call { callee := .value f, args := as, .. } => match st.val f with
    | .clo n caps => if E.kill n then none
      else if (E.md n).all (· == .ro) then (evRo Φ st.box nid n (as.toList.map st.val ++ caps)).bind fun (v, ids) => match ids with
        | [] => st.put o.dst v
        | _ => none
      else none
    | _ => none
  | _ => none
def isEff : Op → Bool
  | .alloc _ => true
  | .box _ _ => true
  | .store _ _ _ => true
  | .buildSlice _ _ _ => true
  | .makeSlice _ _ _ => true
  | .call { callee := .builtin .append, .. } => true
  | .call { callee := .value _, .. } => true
  | _ => false
/-- A region whose order the machine may choose: in one order. -/
def evPlan (E : Env) (Φ : Phi) (all : List Oper) : List (Bool × Nat) → Nat → St → Option St
  | [], _, st => some st
  | (q, i) :: r, nid, st => (all[i]?).bind fun o => (wanted all o st).bind fun t =>
      if t then (if q then evOpQ E Φ nid o st else evOp E Φ nid o st).bind fun st => evPlan E Φ all r (nid + 8) st
      else (st.put o.dst .undef).bind fun st => evPlan E Φ all r (nid + 8) st
def evRegion (E : Env) (Φ : Phi) (plan : List (Bool × Nat)) (ops : List Oper) (draw : Bool) (st : St) : Option St :=
  if draw then (evPlan E Φ ops plan st.nx st).map fun s2 => { s2 with nx := st.nx + 8 * plan.length }
  else (evOps E Φ ops st.nx ops st).map fun s2 => { s2 with nx := st.nx + 8 * ops.length }

/-! ### a plan that holds for every order -/
def deps (o : Oper) : List Nat := o.after.toList.filterMap fun e => if Region.binds .any e then some e.on else none
def dedupN : List Nat → List Nat
  | [] => []
  | i :: r => if r.contains i then dedupN r else i :: dedupN r
def ancOf (seen : List (Nat × List Nat)) (o : Oper) : List Nat := dedupN (deps o ++ (deps o).flatMap fun d => (look d seen).getD [])
def dstIn (l : List Nat) : Option Nat → Bool
  | some d => l.contains d
  | none => false
def planOK (ops : Array Oper) : List (Bool × Nat) → List (Nat × List Nat) → Option Nat → Bool
  | [], seen, _ => (List.range ops.size).all fun i => (look i seen).isSome
  | (q, i) :: r, seen, last => match ops[i]? with
    | none => false
    | some o =>
      let anc := ancOf seen o
      (deps o).all (fun d => (look d seen).isSome) && !(look i seen).isSome &&
      (match last with | none => true | some e => anc.contains e) &&
      ((List.range ops.size).all fun j => match ops[j]? with | some p => !dstIn (o.looksAt ops) p.dst || anc.contains j | none => true) &&
      (seen.all fun s => match ops[s.1]? with | some p => !dstIn (p.looksAt ops) o.dst && (o.dst.isNone || p.dst != o.dst) | none => false) &&
      !dstIn (o.looksAt ops) o.dst &&
      (if isEff o.op then q || (seen.all fun s => match ops[s.1]? with | some p => anc.contains s.1 || isEff p.op | none => false) else !q && o.dst.isSome) &&
      planOK ops r ((i, anc) :: seen) (if isEff o.op then some i else last)
def codeOK (plan : Nat → List (Bool × Nat)) : Code → Bool
  | .region id ops draw => !draw || planOK ops (plan id) [] none
  | .seq x y => codeOK plan x && codeOK plan y
  | .cond _ x y => codeOK plan x && codeOK plan y
  | .block _ c => codeOK plan c
  | .loop c => codeOK plan c
  | .scope c => codeOK plan c
  | _ => true

/-! ### loops: what is kept at a round's head -/
mutual
def AV.boxes : AV → List Nat
  | .ptr id _ => [id]
  | .agg cs => AV.boxess cs
  | .tup cs => AV.boxess cs
  | .clo _ cs => AV.boxess cs
  | _ => []
def AV.boxess : List AV → List Nat
  | [] => []
  | x :: xs => x.boxes ++ AV.boxess xs
end
def keptBoxes (st : St) (np : Nat) (keep : List Nat) : List Nat :=
  dedup (List.range np ++ AV.boxess (keep.map st.get) ++ AV.boxess ((AV.boxess (keep.map st.get)).flatMap fun id => (st.box id).getD []))
def keptRows (st : St) (bs : List Nat) (keep : List Nat) : List Nat :=
  dedup (AV.rowss (keep.map st.get) ++ bs.flatMap fun id => AV.rowss ((st.box id).getD []))
def renameB (g b : List Nat) (v : AV) : AV := v.mapO (fun id fz e sz xs => .own (idx g id) fz e sz xs) (fun id off => if id ∈ b then .ptr (idx b id) off else .undef) (fun _ _ _ _ _ _ _ => .undef) (fun _ => .nils)
def gc (np : Nat) (keep : List Nat) (st : St) : Option St :=
  let b := keptBoxes st np keep
  let g := keptRows st b keep
  if nodupB b ∧ nodupB g ∧ b.all (fun id => (st.box id).isSome) ∧ (List.range np).all (fun i => idx b i == i) ∧ (keep.map st.get ++ b.flatMap fun id => (st.box id).getD []).all (fun v => v.rows.all fun r => decide (r ∈ g)) then
    some { sl := keep.map fun i => (i, renameB g b (st.get i)), bx := numbered 0 (b.map fun id => ((st.box id).getD []).map (renameB g b)), nx := g.length + b.length, nt := st.nt }
  else none
def firstRegion : Code → Nat
  | .region id _ _ => id
  | .seq x y => match x with
    | .label _ => firstRegion y
    | x => firstRegion x
  | .block _ c => firstRegion c
  | .loop c => firstRegion c
  | .cond _ x _ => firstRegion x
  | .scope c => firstRegion c
  | _ => 0
def iter (step : St → Option (Exit × St)) (head : St → Option St) : Nat → St → Option (Exit × St)
  | 0, _ => none
  | n + 1, st => (head st).bind fun st => (step st).bind fun (e, st') => match e with
    | .normal => iter step head n st'
    | e => some (e, st')
/-- Code of function f, np of whose variables are the caller's; at most n rounds of each loop. -/
def ev (E : Env) (Φ : Phi) (n f np : Nat) : Code → St → Option (Exit × St)
  | .skip, st => some (.normal, st)
  | .region id ops draw, st => (evRegion E Φ (E.plan f id) ops.toList draw st).map fun st => (.normal, st)
  | .seq x y, st => (ev E Φ n f np x st).bind fun (e, st') => match e with
    | .normal => ev E Φ n f np y st'
    | e => some (e, st')
  | .cond c x y, st => match st.val c with
    | .bool b => if b then ev E Φ n f np x st else ev E Φ n f np y st
    | _ => none
  | .block id c, st => (ev E Φ n f np c st).map fun (e, st') => match e with
    | .exit j => (if j = id then .normal else .exit j, st')
    | e => (e, st')
  | .loop c, st => iter (ev E Φ n f np c) (gc np (E.keep f (firstRegion c))) n st
  | .exit id, st => some (.exit id, st)
  | .scope c, st => (ev E Φ n f np c st).bind fun (e, st') => match e with
    | .goto _ => none
    | e => some (e, st')
  | .label _, st => some (.normal, st)
  | .ret, st => some (.ret, st)
  | _, _ => none
def resultOf (P : Program) (st : St) : ResultVar → Option AV
  | .tmp t => some (st.get t)
  | .cell a t => evLoad P st.box t (st.get a)
/-- At most four results, those in variables at most two. -/
def resultsOf (P : Program) (st : St) : List ResultVar → Option (List AV)
  | [] => some []
  | [r] => (resultOf P st r).map fun v => [v]
  | [r, s] => (resultOf P st r).bind fun v => (resultOf P st s).map fun u => [v, u]
  | [.tmp r, .tmp s, .tmp t] => some [st.get r, st.get s, st.get t]
  | [.tmp r, .tmp s, .tmp t, .tmp u] => some [st.get r, st.get s, st.get t, st.get u]
  | _ => none
def boxesUpto (st : St) : Nat → Nat → Option (List (List AV))
  | _, 0 => some []
  | i, n + 1 => (st.box i).bind fun cs => (boxesUpto st (i + 1) n).map (cs :: ·)
def isBad (x : AV) : Bool := isPtr x || x.isUndef
def noPtr (v : AV) : Bool := !v.any isBad
def mutSlots : Nat → List Mode → List Nat
  | _, [] => []
  | i, .mut :: r => i :: mutSlots (i + 1) r
  | i, _ :: r => mutSlots (i + 1) r
def tupOf : List AV → AV
  | [v] => v
  | vs => .tup vs
def finish (P : Program) (md : List Mode) (rs : List ResultVar) (np : Nat) (st : St) : Option (AV × List (List AV)) :=
  (resultsOf P st rs).bind fun vs => (boxesUpto st 0 np).bind fun bs =>
    let ret := tupOf vs
    let ms := (mutSlots 0 md).map fun i => [st.get i]
    if ms ≠ [] then (if noPtr ret ∧ bs = [] ∧ ret.rows = [] ∧ ms.all (fun cs => cs.all noPtr) then some (ret, ms) else none) else
    let ios := bs
    let g := dedup (ret.rows ++ ios.flatMap AV.rowss)
    if noPtr ret ∧ ios.all (fun cs => cs.all noPtr) ∧ nodupB g ∧ (ret.rows ++ ios.flatMap AV.rowss).all (fun r => decide (r ∈ g)) then some (rename g ret, ios.map fun cs => cs.map (rename g)) else none
def start (fn : Func) (args : List AV) (ios : List (List AV)) : St :=
  { sl := numbered 0 args, bx := numbered 0 ios, nx := 16, nt := max fn.ntmps args.length }
def body (E : Env) (Φ : Phi) (n f : Nat) (args : List AV) (ios : List (List AV)) : Option (AV × List (List AV)) :=
  (E.P.funcs[f]?).bind fun fn => fn.body.bind fun c =>
    (ev E Φ n f ios.length c (start fn args ios)).bind fun (e, st) => match e with
      | .normal => finish E.P (E.md f) fn.results.toList ios.length st
      | .ret => finish E.P (E.md f) fn.results.toList ios.length st
      | _ => none
/-- A call of function f, at most n calls deep, with at most n rounds of each loop; what ext tells of is not entered. -/
def run (E : Env) (ext : Nat → Option (List AV → List (List AV) → Option (AV × List (List AV)))) : Nat → Phi
  | 0, _, _, _ => none
  | n + 1, f, args, ios => match ext f with
    | some g => g args ios
    | none => if E.ok f then body E (run E ext n) n f args ios else none

end Go.Proofs.Ytgckhjcfcandmaa.Flat
