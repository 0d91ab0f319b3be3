/-
The evaluator: Go functions run on abstract values (rows are lists, structs are lists of cells). Definitions alone.
-/
import Derived.Tactics
import Derived.LoopN
import Derived.Orders
import Derived.Laws.AppendOwn
import Derived.Laws.OwnMore
import Derived.WideLaws
import Derived.Laws.Cells
import Derived.Laws.Build
import Derived.Laws.StructEq
import Derived.Laws.BytesString
import Derived.Laws.Slices
import Derived.Laws.Strings2
import Derived.WalkLawsBesides
set_option linter.unusedVariables false
set_option linter.unusedSimpArgs false
namespace Go.Proofs.Ytggkeechdakccaa.Flat
inductive AV where
  | undef
  | int (k : IntKind) (n : Int)
  | bool (b : Bool)
  | str (s : ByteArray)
  | nils
  | sl (fl : Bool) (xs : List AV)
  | own (id : Nat) (fz : Bool) (e sz : Nat) (xs : List AV)
  | agg (cs : List AV)
  | tup (vs : List AV)
  | ptr (id off : Nat)
  | eptr (d : Bool) (id : Nat) (fz : Bool) (e sz : Nat) (xs : List AV) (i off : Nat)
  | tr (e sz : Nat) (xs : List AV)
  | cptr (cs : List AV)
  | clo (f : Nat) (caps : List AV)
  /-- A cell out of which a row of ours has been taken. -/
  | gone
deriving Inhabited
namespace AV
def cells : AV → List AV
  | .agg cs => cs
  | v => [v]
def isUndef : AV → Bool
  | .undef => true
  | _ => false
def isCell : AV → Bool
  | .agg _ => false
  | .tup _ => false
  | .undef => false
  | _ => true
mutual
def mapO (f : Nat → Bool → Nat → Nat → List AV → AV) (g : Nat → Nat → AV) (h : Bool → Nat → Bool → Nat → Nat → List AV → Nat → Nat → AV) (z : Unit → AV) : AV → AV
  | .own id fz e sz xs => f id fz e sz xs
  | .ptr id off => g id off
  | .eptr d id fz e sz xs i off => h d id fz e sz xs i off
  | .agg cs => .agg (mapOs f g h z cs)
  | .tup cs => .tup (mapOs f g h z cs)
  | .clo n cs => .clo n (mapOs f g h z cs)
  | .undef => .undef
  | .int k n => .int k n
  | .bool b => .bool b
  | .str s => .str s
  | .nils => z ()
  | .sl fl xs => .sl fl xs
  | .cptr cs => .cptr cs
  | .tr e sz xs => .tr e sz xs
  | .gone => .gone
def mapOs (f : Nat → Bool → Nat → Nat → List AV → AV) (g : Nat → Nat → AV) (h : Bool → Nat → Bool → Nat → Nat → List AV → Nat → Nat → AV) (z : Unit → AV) : List AV → List AV
  | [] => []
  | x :: xs => mapO f g h z x :: mapOs f g h z xs
end
mutual
def any (p : AV → Bool) : AV → Bool
  | .agg cs => p (.agg cs) || anys p cs
  | .tup cs => p (.tup cs) || anys p cs
  | .clo n cs => p (.clo n cs) || anys p cs
  | v => p v
def anys (p : AV → Bool) : List AV → Bool
  | [] => false
  | x :: xs => any p x || anys p xs
end
mutual
def rows : AV → List Nat
  | .own id _ _ _ _ => [id]
  | .eptr _ id _ _ _ _ _ _ => [id]
  | .agg cs => rowss cs
  | .tup cs => rowss cs
  | .clo _ cs => rowss cs
  | _ => []
def rowss : List AV → List Nat
  | [] => []
  | x :: xs => rows x ++ rowss xs
end
mutual
def shut : AV → AV
  | .tr _ _ xs => .sl true (shuts xs)
  | .agg cs => .agg (shuts cs)
  | v => v
def shuts : List AV → List AV
  | [] => []
  | x :: xs => x.shut :: shuts xs
end
mutual
def scal : AV → Bool
  | .int _ _ => true
  | .bool _ => true
  | .str _ => true
  | .nils => true
  | .sl _ [] => true
  | .tr _ _ xs => scals xs
  | .agg cs => scals cs
  | .gone => true
  | _ => false
def scals : List AV → Bool
  | [] => true
  | x :: xs => x.scal && scals xs
end
def subs (id : Nat) (fz : Bool) (e sz : Nat) (xs : List AV) (i : Nat) : Nat → List AV → List AV
  | _, [] => []
  | k, .tr _ _ _ :: r => .eptr true id fz e sz xs i k :: subs id fz e sz xs i (k + 1) r
  | k, c :: r => c :: subs id fz e sz xs i (k + 1) r
def inner (xs : List AV) (i k : Nat) : Option (Nat × Nat × List AV) :=
  match (xs[i]?).bind fun x => x.cells[k]? with
  | some (.tr e sz ys) => some (e, sz, ys)
  | _ => none
end AV
inductive Tag where
  | slice | struct | string | bool | other
  | array (n : Nat)
  | int (k : IntKind)
deriving DecidableEq, Inhabited
structure TI where
  tag : Tag
  agg : Bool
  size : Nat
  bytes : Nat
  zero : Option Value
  elem : Nat
  fields : List (Nat × Nat × Bool)
  eqs : Option (List Nat)
deriving Inhabited
def tagD : TypeDesc → Tag
  | .slice _ => .slice
  | .struct _ => .struct
  | .string => .string
  | .bool => .bool
  | .array n _ => .array n
  | .int k => .int k
  | _ => .other
def isAggD : TypeDesc → Bool
  | .struct _ => true
  | .array _ _ => true
  | _ => false
def elemD : TypeDesc → Nat
  | .slice e => e
  | .array _ e => e
  | _ => 0
def sizeD (P : Program) (t : Nat) : Nat :=
  match P.info? t, P.underlying t with
  | some i, some _ => i.size
  | _, _ => 0
def fieldsD (P : Program) : TypeDesc → List (Nat × Nat × Bool)
  | .struct fs => fs.toList.map fun f => (f.offset, sizeD P f.type, ((P.underlying f.type).map isAggD).getD false)
  | _ => []
def kindD : TypeDesc → Option Nat
  | .int _ => some 0
  | .bool => some 1
  | .string => some 2
  | _ => none
def eqsFrom (P : Program) : Nat → List Field → Option (List Nat)
  | _, [] => some []
  | i, f :: fs => if f.name ≠ "_" ∧ f.offset = i then ((P.underlying f.type).bind kindD).bind fun k => (eqsFrom P (i + 1) fs).map (k :: ·) else none
def eqsOf (P : Program) (t : Nat) : TypeDesc → Option (List Nat)
  | .struct fs => if P.stoodInHeld t = false ∧ P.eqGuardType P.depth t = false then eqsFrom P 0 fs.toList else none
  | _ => none
def tiOf (P : Program) (t : Nat) : Option TI :=
  match P.info? t, P.underlying t with
  | some i, some d => some { tag := tagD d, agg := isAggD d, size := i.size, bytes := i.bytes, zero := i.zero, elem := elemD d, fields := fieldsD P d, eqs := eqsOf P t d }
  | _, _ => none
def tagOf (P : Program) (t : Nat) : Tag :=
  match tiOf P t with
  | some ti => ti.tag
  | none => .other
def isSliceT (P : Program) (t : Nat) : Bool := decide (tagOf P t = .slice)
def isStructT (P : Program) (t : Nat) : Bool := decide (tagOf P t = .struct)
def isStringT (P : Program) (t : Nat) : Bool := decide (tagOf P t = .string)
def isArrayT (P : Program) (t : Nat) : Option Nat :=
  match tagOf P t with
  | .array n => some n
  | _ => none
def ofCell : Value → Option AV
  | .int k n => some (.int k n)
  | .bool b => some (.bool b)
  | .string s => some (.str s)
  | .slice none 0 0 => some .nils
  | _ => none
def ofCells : List Value → Option (List AV)
  | [] => some []
  | v :: vs => (ofCell v).bind fun a => (ofCells vs).map (a :: ·)
def ofConst : Value → Option AV
  | .agg cs => (ofCells cs.toList).map .agg
  | v => ofCell v
structure St where
  sl : List (Nat × AV)
  bx : List (Nat × List AV)
  nx : Nat
  nt : Nat
  /-- Rows that are stored into rows stay ours. -/
  tree : Bool := false
deriving Inhabited
def look {α : Type} (i : Nat) : List (Nat × α) → Option α
  | [] => none
  | (j, v) :: r => if i = j then some v else look i r
def St.get (st : St) (i : Nat) : AV := (look i st.sl).getD .undef
def St.put (st : St) (d : Option Nat) (v : AV) : Option St :=
  match d with
  | none => some st
  | some i => if i < st.nt then some { st with sl := (i, v) :: st.sl } else none
def St.val (st : St) : Operand → AV
  | .tmp t => st.get t
  | .const v => (ofConst v).getD .undef
  | .global _ => .undef
  | .func f => .clo f []
def evInt (op : BinOp) (k : IntKind) (x y : Int) : Option AV :=
  match op with
  | .add => some (.int k (k.wrap (x + y)))
  | .sub => some (.int k (k.wrap (x - y)))
  | .mul => some (.int k (k.wrap (x * y)))
  | .quo => if y = 0 then none else some (.int k (k.wrap (x.tdiv y)))
  | .rem => if y = 0 then none else some (.int k (x.tmod y))
  | .and => some (.int k (bits .and k x y))
  | .or => some (.int k (bits .or k x y))
  | .xor => some (.int k (bits .xor k x y))
  | .andNot => some (.int k (bits .andNot k x y))
  | .eql => some (.bool (x == y))
  | .neq => some (.bool (x != y))
  | .lss => some (.bool (decide (x < y)))
  | .leq => some (.bool (decide (x ≤ y)))
  | .gtr => some (.bool (decide (x > y)))
  | .geq => some (.bool (decide (x ≥ y)))
  | _ => none
def evShift (op : BinOp) (k : IntKind) (x y : Int) : Option AV :=
  if y < 0 then none else
  match op with
  | .shl => some (.int k (k.wrap (x * 2 ^ (min y.toNat k.bits))))
  | .shr => some (.int k (x.fdiv (2 ^ (min y.toNat k.bits))))
  | _ => none
def evStr (op : BinOp) (x y : ByteArray) : Option AV :=
  match op with
  | .add => if ((x.size + y.size : Nat) : Int) > IntKind.max .i64 then none else some (.str (x ++ y))
  | .eql => some (.bool (x.toList == y.toList))
  | .neq => some (.bool (!(x.toList == y.toList)))
  | .lss => some (.bool (Op.bytesLess x.toList y.toList))
  | .leq => some (.bool (Op.bytesLess x.toList y.toList || x.toList == y.toList))
  | .gtr => some (.bool (!(Op.bytesLess x.toList y.toList || x.toList == y.toList)))
  | .geq => some (.bool (!Op.bytesLess x.toList y.toList))
  | _ => none
def eqK : List Nat → List AV → List AV → Option Bool
  | [], [], [] => some true
  | 0 :: ks, .int k x :: r, .int k' y :: s => if k = k' then (eqK ks r s).map fun t => (x == y) && t else none
  | 1 :: ks, .bool x :: r, .bool y :: s => (eqK ks r s).map fun t => (x == y) && t
  | 2 :: ks, .str x :: r, .str y :: s => (eqK ks r s).map fun t => (x.toList == y.toList) && t
  | _, _, _ => none
def evEq (P : Program) (t : Nat) (a b : List AV) : Option Bool := (tiOf P t).bind fun ti => ti.eqs.bind fun ks => eqK ks a b
def evBin (P : Program) (op : BinOp) (t : Nat) (x y : AV) : Option AV :=
  match x, y with
  | .int k a, .int k' b =>
    match op with
    | .shl => evShift .shl k a b
    | .shr => evShift .shr k a b
    | op => if k = k' then evInt op k a b else none
  | .str a, .str b => evStr op a b
  | .bool a, .bool b =>
    if tagOf P t = .bool then
      match op with
      | .eql => some (.bool (a == b))
      | .neq => some (.bool (!(a == b)))
      | _ => none
    else none
  | _, _ => none
def evUn (op : UnOp) (x : AV) : Option AV :=
  match op, x with
  | .neg, .int k n => some (.int k (k.wrap (0 - n)))
  | .not, .bool b => some (.bool (!b))
  | _, _ => none
def behind (bx : Nat → Option (List AV)) : AV → Option (List AV)
  | .ptr id off => (bx id).map (·.drop off)
  | .eptr false id fz e sz xs i off => (xs[i]?).map fun x => (AV.subs id fz e sz xs i 0 x.cells).drop off
  | .cptr cs => some cs
  | _ => none
def takeVal (agg : Bool) (n : Nat) (cs : List AV) : Option AV :=
  if agg then (if n ≤ cs.length then some (.agg (cs.take n)) else none) else cs.head?
def evLoad (P : Program) (bx : Nat → Option (List AV)) (t : Nat) (p : AV) : Option AV :=
  (tiOf P t).bind fun ti => (behind bx p).bind fun cs => takeVal ti.agg ti.size cs
def evFieldAddr (P : Program) (t : Nat) (p : AV) (f : Nat) : Option AV :=
  if isStructT P t then
    (tiOf P t).bind fun ti => ti.fields[f]?.bind fun (off, size, _) => if size = 0 then none else
      match p with
      | .ptr id o => some (.ptr id (o + off))
      | .eptr false id fz e sz xs i o => some (.eptr false id fz e sz xs i (o + off))
      | .cptr cs => some (.cptr (cs.drop off))
      | _ => none
  else none
def evField (P : Program) (t : Nat) (x : AV) (f : Nat) : Option AV :=
  if isStructT P t then
    (tiOf P t).bind fun ti => ti.fields[f]?.bind fun (off, size, agg) =>
      match x with
      | .agg cs => if size = 0 then none else takeVal agg size (cs.drop off)
      | _ => none
  else none
def evIndexAddr (P : Program) (t : Nat) (x i : AV) : Option AV :=
  if isSliceT P t then
    (tiOf P t).bind fun ti => (tiOf P ti.elem).bind fun te =>
      match x, i with
      | .sl _ xs, .int _ n => if 0 ≤ n then (xs[n.toNat]?).bind fun x => if x.cells.length = te.size then some (.cptr x.cells) else none else none
      | .own id fz e sz xs, .int _ n => if sz = te.size ∧ 0 ≤ n ∧ n < xs.length then some (.eptr false id fz e sz xs n.toNat 0) else none
      | _, _ => none
  else match isArrayT P t with
    | some m => (tiOf P t).bind fun ti => (tiOf P ti.elem).bind fun te =>
      match x, i with
      | .ptr id off, .int _ n => if 0 ≤ n ∧ n < m then some (.ptr id (off + n.toNat * te.size)) else none
      | .cptr cs, .int _ n => if 0 ≤ n ∧ n < m then some (.cptr (cs.drop (n.toNat * te.size))) else none
      | _, _ => none
    | none => none
def evIndex (P : Program) (t : Nat) (x i : AV) : Option AV :=
  match x, i with
  | .str s, .int _ n => if isStringT P t then (if 0 ≤ n then (s[n.toNat]?).map fun b => .int .u8 b.toNat else none) else none
  | .agg cs, .int _ n =>
    (isArrayT P t).bind fun m => (tiOf P t).bind fun ti => (tiOf P ti.elem).bind fun te =>
      if te.agg = false ∧ te.size = 1 ∧ 0 ≤ n ∧ n < m then cs[n.toNat]? else none
  | _, _ => none
def fillCells (places : Nat → Option (Nat × Nat)) : List AV → List (Nat × AV) → Option (List AV)
  | zs, [] => some zs
  | zs, (i, x) :: r => (places i).bind fun (off, size) =>
      if x.cells.length = size ∧ size ≠ 0 ∧ off + size ≤ zs.length then fillCells places (zs.take off ++ x.cells ++ zs.drop (off + size)) r else none
def evBuild (P : Program) (t : Nat) (parts : List (Nat × AV)) : Option AV :=
  (tiOf P t).bind fun ti => if parts.all (fun p => !p.2.isUndef) then ti.zero.bind fun z => (ofCells z.cells.toList).bind fun zs =>
    if isStructT P t then (if ti.fields.all (fun f => decide (f.2.1 ≠ 0)) then (fillCells (fun i => (ti.fields[i]?).map fun f => (f.1, f.2.1)) zs parts).map .agg else none)
    else match isArrayT P t with
      | some _ => (tiOf P ti.elem).bind fun te => (fillCells (fun i => some (i * te.size, te.size)) zs parts).map .agg
      | none => none
    else none
def bytesOf : List AV → Option (List Int)
  | [] => some []
  | .int .u8 n :: r => (bytesOf r).map (n :: ·)
  | _ => none
def strOf (ns : List Int) : ByteArray := ns.foldl (fun r n => r.push (UInt8.ofNat n.toNat)) ByteArray.empty
def evText (P : Program) (ti : TI) (d : Nat) : AV → Option AV
  | .own _ _ _ sz xs => if sz = 1 ∧ ti.tag = .slice ∧ tagOf P ti.elem = .int .u8 ∧ tagOf P d = .string then (bytesOf xs).map fun ns => .str (strOf ns) else none
  | _ => none
def evConvert (P : Program) (s d : Nat) (x : AV) : Option AV :=
  (tiOf P s).bind fun ti =>
    match tagOf P d, x with
    | .int k, .int _ n => some (.int k (k.wrap n))
    | .string, .str s => some (.str s)
    | _, x => evText P ti d x
def evLen (P : Program) (t : Nat) (x : AV) : Option AV :=
  match x with
  | .str s => if isStringT P t then some (.int .i64 s.size) else none
  | .nils => if isSliceT P t then some (.int .i64 0) else none
  | .sl _ xs => if isSliceT P t then some (.int .i64 xs.length) else none
  | .own _ _ _ _ xs => if isSliceT P t then some (.int .i64 xs.length) else none
  | .eptr true _ _ _ _ xs i k => (AV.inner xs i k).bind fun r => if isSliceT P t then some (.int .i64 r.2.2.length) else none
  | _ => none
def evCutStr (s : ByteArray) (lo hi : Option AV) : Option AV :=
  match lo, hi with
  | none, none => some (.str (s.extract 0 s.size))
  | some (.int _ a), none => if 0 ≤ a ∧ a ≤ s.size then some (.str (s.extract a.toNat s.size)) else none
  | none, some (.int _ b) => if 0 ≤ b ∧ b ≤ s.size then some (.str (s.extract 0 b.toNat)) else none
  | some (.int _ a), some (.int _ b) => if 0 ≤ a ∧ a ≤ b ∧ b ≤ s.size then some (.str (s.extract a.toNat b.toNat)) else none
  | _, _ => none
def evCutRow (size : Nat) (fl : Bool) (xs : List AV) (lo hi : Option AV) : Option AV :=
  match lo, hi with
  | some (.int _ a), none => if 0 ≤ a ∧ a ≤ xs.length ∧ xs.all (fun x => decide (x.cells.length = size)) then some (.sl fl (xs.drop a.toNat)) else none
  | none, some (.int _ b) => if 0 ≤ b ∧ b ≤ xs.length then some (.sl fl (xs.take b.toNat)) else none
  | some (.int _ a), some (.int _ b) => if 0 ≤ a ∧ a ≤ b ∧ b ≤ xs.length ∧ xs.all (fun x => decide (x.cells.length = size)) then some (.sl fl ((xs.take b.toNat).drop a.toNat)) else none
  | _, _ => none
end Go.Proofs.Ytggkeechdakccaa.Flat
/-
The evaluator, second part: operations that change the state, regions, code, calls. Definitions alone.
-/
namespace Go.Proofs.Ytggkeechdakccaa.Flat
def numbered {α : Type} : Nat → List α → List (Nat × α)
  | _, [] => []
  | n, x :: xs => (n, x) :: numbered (n + 1) xs
def St.mapO (f : Nat → Bool → Nat → Nat → List AV → AV) (g : Nat → Nat → AV) (h : Bool → Nat → Bool → Nat → Nat → List AV → Nat → Nat → AV) (st : St) : St :=
  { st with sl := st.sl.map fun p => (p.1, p.2.mapO f g h (fun _ => .nils)), bx := st.bx.map fun p => (p.1, AV.mapOs f g h (fun _ => .nils) p.2) }
def St.scrub (ids : List Nat) (st : St) : St :=
  match ids with
  | [] => st
  | ids => st.mapO (fun id fz e sz xs => if id ∈ ids then .undef else .own id fz e sz xs) .ptr (fun d id fz e sz xs i off => if id ∈ ids then .undef else .eptr d id fz e sz xs i off)
def frzO (ids : List Nat) (id : Nat) (fz : Bool) (e sz : Nat) (xs : List AV) : AV := if id ∈ ids then .own id true e sz (AV.shuts xs) else .own id fz e sz xs
def frzE (ids : List Nat) (d : Bool) (id : Nat) (fz : Bool) (e sz : Nat) (xs : List AV) (i off : Nat) : AV :=
  if id ∈ ids then (if d then (match AV.inner xs i off with | some r => .sl true (AV.shuts r.2.2) | none => .undef) else .eptr false id true e sz (AV.shuts xs) i off) else .eptr d id fz e sz xs i off
def St.freeze (ids : List Nat) (st : St) : St :=
  match ids with
  | [] => st
  | ids => st.mapO (frzO ids) .ptr (frzE ids)
def St.setRow (id : Nat) (xs' : List AV) (st : St) : St :=
  st.mapO (fun i fz e sz xs => if i = id then .own i fz e sz xs' else .own i fz e sz xs) .ptr (fun d i fz e sz xs k off => if i = id then .undef else .eptr d i fz e sz xs k off)
def AV.shutV (v : AV) : AV := v.mapO (fun _ _ _ _ xs => .sl true (AV.shuts xs)) (fun _ _ => .undef)
  (fun d _ _ _ _ xs i k => if d then (match AV.inner xs i k with | some r => .sl true (AV.shuts r.2.2) | none => .undef) else .undef) (fun _ => .sl true [])
def AV.treeC : AV → AV
  | .own _ false e sz xs => .tr e sz xs
  | .nils => .sl true []
  | .int k n => .int k n
  | .bool b => .bool b
  | .str s => .str s
  | .sl fl xs => .sl fl xs
  | _ => .undef
def AV.treeV : AV → AV
  | .agg cs => .agg (cs.map AV.treeC)
  | v => v.treeC
def AV.laid (tree : Bool) (v : AV) : AV := if tree then v.treeV else v.shutV
def St.laid (ids : List Nat) (st : St) : St := if st.tree then st.scrub ids else st.freeze ids
def St.box (st : St) (id : Nat) : Option (List AV) := look id st.bx
def St.setBox (st : St) (id : Nat) (cs : List AV) : St := { st with bx := (id, cs) :: st.bx }
def nodupB : List Nat → Bool
  | [] => true
  | i :: r => !(decide (i ∈ r)) && nodupB r
def evAlloc (P : Program) (t nid : Nat) (dst : Option Nat) (st : St) : Option St :=
  (tiOf P t).bind fun ti => ti.zero.bind fun z => (ofCells z.cells.toList).bind fun cs => (st.setBox nid cs).put dst (.ptr nid 0)
def evBox (nid : Nat) (dst : Option Nat) (x : AV) (st : St) : Option St :=
  if x.cells.all AV.isCell then (st.setBox nid x.cells).put dst (.ptr nid 0) else none
def rebuild (y : AV) (c : List AV) : AV :=
  match y with
  | .agg _ => .agg c
  | _ => c.headD .undef
def evStore (P : Program) (t : Nat) (p x : AV) (dst : Option Nat) (st : St) : Option St :=
  (tiOf P t).bind fun ti => if x.cells.length = ti.size ∧ x.cells.all AV.isCell then
    match p with
    | .ptr id off => (st.box id).bind fun cs => if off + ti.size ≤ cs.length then (st.setBox id (cs.take off ++ x.cells ++ cs.drop (off + ti.size))).put dst .undef else none
    | .eptr false id false _ _ xs i off => (xs[i]?).bind fun y =>
        let c := y.cells.take off ++ (x.laid st.tree).cells ++ y.cells.drop (off + ti.size)
        if off + ti.size ≤ y.cells.length ∧ (x.laid st.tree).cells.all AV.isCell ∧ id ∉ x.rows ∧ (st.tree = false ∨ nodupB x.rows = true) then
          ((st.laid x.rows).setRow id (xs.set i (rebuild y c))).put dst .undef
        else none
    | _ => none
  else none
def zeroOK (te : TI) : Bool :=
  match te.zero with
  | some z => decide (z.cells.size = te.size)
  | none => false
def isAggV : AV → Bool
  | .agg _ => true
  | _ => false
def elemsOf (tree agg : Bool) (size : Nat) : Nat → List (Nat × AV) → Option (List AV)
  | _, [] => some []
  | k, (i, x) :: r => if i = k ∧ (x.laid tree).cells.length = size ∧ (x.laid tree).cells.all AV.isCell ∧ isAggV x = agg then (elemsOf tree agg size (k + 1) r).map (x.laid tree :: ·) else none
def evBuildSlice (P : Program) (t len : Nat) (parts : List (Nat × AV)) (nid : Nat) (dst : Option Nat) (st : St) : Option St :=
  if isSliceT P t then (tiOf P t).bind fun ti => (tiOf P ti.elem).bind fun te => (elemsOf st.tree te.agg te.size 0 parts).bind fun xs =>
    if parts.length = len ∧ len * te.size ≤ 16777216 ∧ 0 < te.size ∧ zeroOK te ∧ (st.tree = false ∨ nodupB (parts.flatMap fun p => p.2.rows) = true) then (st.laid (parts.flatMap fun p => p.2.rows)).put dst (.own nid false ti.elem te.size xs) else none
  else none
def zeroElem (te : TI) : Option AV :=
  te.zero.bind fun z => (ofCells z.cells.toList).bind fun cs => if cs.length = te.size then (if te.agg then some (AV.shutV (.agg cs)) else (match cs with | [c] => some c.shutV | _ => none)) else none
def evMakeSlice (P : Program) (t : Nat) (l c : AV) (nid : Nat) (dst : Option Nat) (st : St) : Option St :=
  if isSliceT P t then (tiOf P t).bind fun ti => (tiOf P ti.elem).bind fun te => (zeroElem te).bind fun z =>
    match l, c with
    | .int _ n, .int _ m => if n = m ∧ 0 ≤ n ∧ te.bytes * n.toNat ≤ 281474976710656 ∧ n.toNat ≤ 9223372036854775807 ∧ 0 < te.size then st.put dst (.own nid false ti.elem te.size (List.replicate n.toNat z)) else none
    | _, _ => none
  else none
def rowOf : AV → Option (List AV)
  | .nils => some []
  | .sl _ xs => some xs
  | .own _ _ _ _ xs => some xs
  | _ => none
def plains (ys : List AV) : Bool := ys.all fun y => y.cells.all fun c => match c with | .tr _ _ _ => false | _ => true
def spent (tree : Bool) : AV → List Nat
  | .own id _ _ _ _ => if tree then [id] else []
  | _ => []
def evAppend (P : Program) (t u : Nat) (s x : AV) (nid : Nat) (dst : Option Nat) (st : St) : Option St :=
  if isSliceT P t ∧ u = t then (tiOf P t).bind fun ti => (tiOf P ti.elem).bind fun te => (rowOf x).bind fun ys =>
    if (ys.all fun y => decide (y.cells.length = te.size)) ∧ 0 < te.size ∧ zeroOK te ∧ (st.tree = true ∨ plains ys = true) then
      match s with
      | .nils => if ys.length * te.bytes ≤ 140737488355328 ∧ ys.length ≤ 9223372036854775807 then (st.scrub (spent st.tree x)).put dst (match ys with | [] => .nils | ys => .own nid false ti.elem te.size ys) else none
      | .own id fz e sz' xs => if e = ti.elem ∧ sz' = te.size ∧ (xs.length + ys.length) * te.bytes ≤ 140737488355328 ∧ xs.length + ys.length ≤ 9223372036854775807 ∧ id ∉ spent st.tree x then (st.scrub (id :: spent st.tree x)).put dst (.own nid fz e sz' (xs ++ ys)) else none
      | _ => none
    else none
  else none
def evCutOwn (P : Program) (t : Nat) (x : AV) (lo hi : Option AV) (nid : Nat) (dst : Option Nat) (st : St) : Option St :=
  if isSliceT P t then (tiOf P t).bind fun ti => (tiOf P ti.elem).bind fun te =>
    match x with
    | .own id false e sz xs => if sz = te.size then
      (match lo, hi with
      | some (.int _ a), none => if 0 ≤ a ∧ a ≤ xs.length then (st.scrub [id]).put dst (.own nid false e sz (xs.drop a.toNat)) else none
      | none, some (.int _ b) => if 0 ≤ b ∧ b ≤ xs.length then (st.scrub [id]).put dst (.own nid false e sz (xs.take b.toNat)) else none
      | some (.int _ a), some (.int _ b) => if 0 ≤ a ∧ a ≤ b ∧ b ≤ xs.length then (st.scrub [id]).put dst (.own nid false e sz ((xs.take b.toNat).drop a.toNat)) else none
      | _, _ => none) else none
    | _ => none
  else none
abbrev Phi := Nat → List AV → List (List AV) → Option (AV × List (List AV))
inductive Mode where
  | ro | give | mut | io
deriving DecidableEq
def lend (bx : Nat → Option (List AV)) : Nat → AV → AV
  | 0, _ => .undef
  | n + 1, v => v.mapO (fun _ _ _ _ xs => .sl true (AV.shuts xs))
      (fun id off => match bx id with | some cs => .cptr ((cs.map (lend bx n)).drop off) | none => .undef)
      (fun d _ _ _ _ xs i off => if d then (match AV.inner xs i off with | some r => .sl true (AV.shuts r.2.2) | none => .undef) else match xs[i]? with | some x => .cptr (x.shut.cells.drop off) | none => .undef)
      (fun _ => .sl true [])
def isPtr : AV → Bool
  | .ptr _ _ => true
  | .eptr _ _ _ _ _ _ _ _ => true
  | _ => false
def isScal : AV → Bool
  | .int _ _ => true
  | .bool _ => true
  | .str _ => true
  | .nils => true
  | _ => false
def isRef : AV → Bool
  | .sl _ (_ :: _) => true
  | .cptr _ => true
  | .own _ _ _ _ xs => !AV.scals xs
  | _ => false
def noref (v : AV) : Bool := !v.any isRef
def import_ (nid : Nat) (v : AV) : AV := v.mapO (fun id fz e sz xs => .own (nid + id) fz e sz xs) (fun _ _ => .undef) (fun _ _ _ _ _ _ _ _ => .undef) (fun _ => .nils)
def small (v : AV) : Bool := v.rows.all fun i => decide (i < 8)
def evRo (Φ : Phi) (bx : Nat → Option (List AV)) (nid f : Nat) (args : List AV) : Option (AV × List Nat) :=
  (Φ f (args.map (lend bx 4)) []).bind fun (ret, ios) =>
    match ios with
    | [] => if small ret then
        (if noref ret then some (import_ nid ret, []) else if args.any (·.any isPtr) then none else some (import_ nid ret, args.flatMap AV.rows))
      else none
    | _ => none
def idx (l : List Nat) (i : Nat) : Nat := match l with
  | [] => 0
  | j :: r => if i = j then 0 else idx r i + 1
def dedup : List Nat → List Nat
  | [] => []
  | i :: r => i :: (dedup r).filter (· ≠ i)
def giveRows (bx : Nat → Option (List AV)) : List (Mode × AV) → List Nat
  | [] => []
  | (.give, v) :: r => v.rows ++ giveRows bx r
  | (.mut, v) :: r => v.rows ++ giveRows bx r
  | (.io, .ptr id _) :: r => AV.rowss ((bx id).getD []) ++ giveRows bx r
  | _ :: r => giveRows bx r
def ioBoxes : List (Mode × AV) → List Nat
  | [] => []
  | (.io, .ptr id _) :: r => id :: ioBoxes r
  | _ :: r => ioBoxes r
def roArgs : List (Mode × AV) → List AV
  | [] => []
  | (.ro, v) :: r => v :: roArgs r
  | _ :: r => roArgs r
def importB (nid n : Nat) (v : AV) : AV := v.mapO (fun id fz e sz xs => .own (nid + id) fz e sz xs) (fun id off => if n ≤ id ∧ id < 8 then .ptr (nid + id) off else .undef) (fun _ _ _ _ _ _ _ _ => .undef) (fun _ => .nils)
def rename (g : List Nat) (v : AV) : AV := v.mapO (fun id fz e sz xs => .own (idx g id) fz e sz xs) (fun _ _ => .undef) (fun _ _ _ _ _ _ _ _ => .undef) (fun _ => .nils)
def handArg (bx : Nat → Option (List AV)) (g hs : List Nat) : Mode × AV → AV
  | (.ro, v) => lend bx 4 v
  | (.give, v) => rename g v
  | (.mut, v) => rename g v
  | (.io, .ptr id 0) => .ptr (idx hs id) 0
  | _ => .undef
def mutArgs : List (Mode × AV) → List AV
  | [] => []
  | (.mut, v) :: r => v :: mutArgs r
  | _ :: r => mutArgs r
mutual
def pairs : AV → AV → List (Nat × AV)
  | .own id _ _ _ _, .own j fz e sz xs => [(id, .own j fz e sz xs)]
  | .agg cs, .agg ds => pairss cs ds
  | _, _ => []
def pairss : List AV → List AV → List (Nat × AV)
  | c :: cs, d :: ds => pairs c d ++ pairss cs ds
  | _, _ => []
end
def backO (nid : Nat) (g : List Nat) (ps : List (Nat × AV)) (id : Nat) (fz : Bool) (e sz : Nat) (xs : List AV) : AV :=
  if id ∈ g then (match look id ps with | some (.own j fz' e' sz' xs') => .own (nid + j) fz' e' sz' xs' | _ => .undef) else .own id fz e sz xs
def backE (g : List Nat) (d : Bool) (id : Nat) (fz : Bool) (e sz : Nat) (xs : List AV) (i off : Nat) : AV := if id ∈ g then .undef else .eptr d id fz e sz xs i off
def St.back (nid : Nat) (g : List Nat) (ps : List (Nat × AV)) (st : St) : St := st.mapO (backO nid g ps) .ptr (backE g)
def setBoxes (nid : Nat) : Nat → List Nat → List (List AV) → St → St
  | k, id :: ids, cs :: css, st => setBoxes nid (k + 1) ids css (st.setBox id (cs.map (import_ nid)))
  | k, [], cs :: css, st => setBoxes nid (k + 1) [] css (st.setBox (nid + k) (cs.map (import_ nid)))
  | _, _, [], st => st
def evGive (Φ : Phi) (nid f : Nat) (args : List (Mode × AV)) (dst : Option Nat) (st : St) : Option St :=
  let g := giveRows st.box args
  let hs := ioBoxes args
  let ms := mutArgs args
  let ros := roArgs args
  if nodupB g = true ∧ nodupB hs = true ∧ g.length ≤ 8 ∧ hs.length ≤ 8 ∧ (ros.all fun v => !(v.any isPtr) && v.rows.all fun r => !(decide (r ∈ g))) = true ∧ (hs.all fun id => (st.box id).isSome) = true then
    (Φ f (args.map (handArg st.box g hs)) (hs.map fun id => ((st.box id).getD []).map (rename g))).bind fun (ret, fin) =>
      let ids := if noref ret && fin.all (fun cs => cs.all noref) then [] else ros.flatMap AV.rows
      if small ret = true ∧ (fin.all fun cs => cs.all small) = true ∧ fin.length ≤ 8 then
        (if ms = [] then (if hs.length ≤ fin.length then (setBoxes nid 0 hs fin ((st.freeze ids).back nid g [])).put dst (importB nid hs.length ret) else none)
        else if hs = [] ∧ fin.length = ms.length then ((st.freeze ids).back nid g (pairss ms (fin.map fun cs => cs.headD .undef))).put dst (import_ nid ret) else none)
      else none
  else none
def evSub (Φ : Phi) (f id : Nat) (xs : List AV) (i k : Nat) (ros : List AV) (dst : Option Nat) (st : St) : Option St :=
  (xs[i]?).bind fun x => match x.cells[k]? with
    | some (.tr e sz ys) => (Φ f (.own 0 false e sz ys :: ros) []).bind fun (ret, fin) =>
      match fin with
      | [[.own j false e' sz' ys']] => if isScal ret = true ∧ e' = e ∧ sz' = sz ∧ AV.scals ys' = true then (st.setRow id (xs.set i (rebuild x (x.cells.set k (.tr e sz ys'))))).put dst ret else none
      | _ => none
    | _ => none
def evCall (Φ : Phi) (md : List Mode) (nid n : Nat) (args caps : List AV) (dst : Option Nat) (st : St) : Option St :=
  if md.all (· == .ro) then (evRo Φ st.box nid n (args ++ caps)).bind fun (v, ids) => (st.freeze ids).put dst v
  else match caps with
    | [] => if md.length = args.length then
        (match md, args with
          | .mut :: md', .eptr true id false _ _ xs i k :: ros => if md'.all (· == .ro) ∧ ros.all isScal then evSub Φ n id xs i k ros dst st else none
          | md, args => evGive Φ nid n (md.zip args) dst st)
        else none
    | _ => none
inductive Qt where
  | no | quiet
  /-- A call that is handed scalars and answers one: it may be run at any time. -/
  | flo
  /-- As quiet, and what it is handed leads to no variable (an alloc: the machine may run it ahead of its turn). -/
  | still
  | soft (ld l : List Nat)
  /-- (At a plan's head:) the variable that slot t leads to is read only, from now on. -/
  | frz (t : Nat)
deriving Inhabited
def Qt.isNo : Qt → Bool
  | .no => true
  | _ => false
structure Env where
  P : Program
  md : Nat → List Mode
  keep : Nat → Nat → List Nat
  /-- The order in which a region is evaluated whose order the machine may choose. -/
  plan : Nat → Nat → List (Qt × Nat)
  ok : Nat → Bool
  /-- Functions in which rows that are stored into rows stay ours. -/
  tree : Nat → Bool
def optAV (val : Operand → AV) : Option Operand → Option AV
  | some x => some (val x)
  | none => none
def evFree (E : Env) (Φ : Phi) (bx : Nat → Option (List AV)) (nid : Nat) (val : Operand → AV) (op : Op) : Option (AV × List Nat) :=
  match op with
  | .move x => some (val x, [])
  | .assign x => some (val x, [])
  | .pick c a b => match val c with
    | .bool t => some (if t then val a else val b, [])
    | _ => none
  | .load t p => (evLoad E.P bx t (val p)).map (·, [])
  | .binOp op t x y _ => match val x, val y with
    | .agg a, .agg b => (evEq E.P t a b).bind fun r => (match op with | .eql => some (.bool r, []) | .neq => some (.bool (!r), []) | _ => none)
    | a, b => (evBin E.P op t a b).map (·, [])
  | .unOp op _ x => (evUn op (val x)).map (·, [])
  | .convert s d x => (evConvert E.P s d (val x)).map (·, [])
  | .fieldAddr t p f => (evFieldAddr E.P t (val p) f).map (·, [])
  | .field t x f => (evField E.P t (val x) f).map (·, [])
  | .indexAddr t x i => (evIndexAddr E.P t (val x) (val i)).map (·, [])
  | .index t x i => (evIndex E.P t (val x) (val i)).map (·, [])
  | .extract x i => match val x with
    | .tup vs => (vs[i]?).map (·, [])
    | _ => none
  | .build t ps => (evBuild E.P t (ps.toList.map fun p => (p.1, val p.2))).map (·, [])
  | .nilCheck x => match val x with
    | .ptr id off => some (.ptr id off, [])
    | .cptr cs => some (.cptr cs, [])
    | .eptr false id fz e sz xs i off => some (.eptr false id fz e sz xs i off, [])
    | _ => none
  | .slice t x lo hi none => match val x with
    | .str s => if isStringT E.P t then (evCutStr s (optAV val lo) (optAV val hi)).map (·, []) else none
    | .sl fl xs => if isSliceT E.P t then (tiOf E.P t).bind fun ti => (tiOf E.P ti.elem).bind fun te => (evCutRow te.size fl xs (optAV val lo) (optAV val hi)).map (·, []) else none
    | _ => none
  | .makeFunc (.func f) first cs => if first.size = 0 then some (.clo f (cs.toList.map val), []) else none
  | .call c => match c.callee with
    | .builtin .len => match c.args.toList, c.argTypes[0]? with
      | [x], some t => (evLen E.P t (val x)).map (·, [])
      | _, _ => none
    | .builtin .min => match c.args.toList.map val with
      | [.int k a, .int k' b] => if k = k' then some (.int k (if b < a then b else a), []) else none
      | _ => none
    | .builtin .max => match c.args.toList.map val with
      | [.int k a, .int k' b] => if k = k' then some (.int k (if b > a then b else a), []) else none
      | _ => none
    | .value f => match val f with
      | .clo n caps => if (E.md n).all (· == .ro) then evRo Φ bx nid n (c.args.toList.map val ++ caps) else none
      | _ => none
    | _ => none
  | _ => none
def evOp0 (E : Env) (Φ : Phi) (nid : Nat) (o : Oper) (st : St) : Option St :=
  match o.op with
  | .alloc t => evAlloc E.P t nid o.dst st
  | .box _ x => evBox nid o.dst (st.val x) st
  | .store t p x => evStore E.P t (st.val p) (st.val x) o.dst st
  | .buildSlice t len ps => evBuildSlice E.P t len (ps.toList.map fun p => (p.1, st.val p.2)) nid o.dst st
  | .makeSlice t l c => evMakeSlice E.P t (st.val l) (st.val c) nid o.dst st
  | .slice t x lo hi none => match st.val x with
    | .own id fz e sz xs => evCutOwn E.P t (.own id fz e sz xs) (optAV st.val lo) (optAV st.val hi) nid o.dst st
    | _ => (evFree E Φ st.box nid st.val o.op).bind fun (v, _) => st.put o.dst v
  | .call { callee := .builtin .append, args := as, argTypes := ts } => match as.toList, ts.toList with
    | [s, x], [t, u] => evAppend E.P t u (st.val s) (st.val x) nid o.dst st
    | _, _ => none
  | .call { callee := .value f, args := as, .. } => match st.val f with
    | .clo n caps => evCall Φ (E.md n) nid n (as.toList.map st.val) caps o.dst st
    | _ => none
  | op => (evFree E Φ st.box nid st.val op).bind fun (v, _) => st.put o.dst v
def evOpP (E : Env) (Φ : Phi) (nid : Nat) (o : Oper) (st : St) : Option St :=
  match o.op with
  | .slice _ _ _ _ _ => (evFree E Φ st.box nid st.val o.op).bind fun (v, _) => st.put o.dst v
  | _ => evOp0 E Φ nid o st
def firstE : List AV → Option (Nat × Nat × Nat × List AV × Nat × Nat)
  | [] => none
  | .eptr true id false e sz xs i k :: _ => some (id, e, sz, xs, i, k)
  | _ :: r => firstE r
def takenO (id : Nat) (e sz : Nat) (xs' : List AV) (j : Nat) (fz : Bool) (f s : Nat) (zs : List AV) : AV := if j = id then .own id false e sz xs' else .own j fz f s zs
def takenE (nid id i k e sz : Nat) (ys : List AV) (d : Bool) (j : Nat) (fz : Bool) (f s : Nat) (zs : List AV) (i' k' : Nat) : AV :=
  if j = id then (if d = true ∧ i' = i ∧ k' = k then .own nid false e sz ys else .undef) else .eptr d j fz f s zs i' k'
def St.take (nid : Nat) (cs : List AV) (st : St) : Option St :=
  match firstE cs with
  | none => none
  | some (id, e, sz, xs, i, k) => (xs[i]?).bind fun x => match x.cells[k]? with
    | some (.tr e' sz' ys) => some (st.mapO (takenO id e sz (xs.set i (rebuild x (x.cells.set k .gone)))) .ptr (takenE nid id i k e' sz' ys))
    | _ => none
def takeT (P : Program) (t len nid : Nat) (ps : List (Nat × Operand)) (dst : Option Nat) (st : St) : Option St → Option St
  | some s => some s
  | none => if st.tree then (st.take (nid + 1) (ps.flatMap fun p => (st.val p.2).cells)).bind fun s0 => evBuildSlice P t len (ps.map fun p => (p.1, s0.val p.2)) nid dst s0 else none
def evOp (E : Env) (Φ : Phi) (nid : Nat) (o : Oper) (st : St) : Option St :=
  match o.op with
  | .buildSlice t len ps => takeT E.P t len nid ps.toList o.dst st (evBuildSlice E.P t len (ps.toList.map fun p => (p.1, st.val p.2)) nid o.dst st)
  | _ => evOp0 E Φ nid o st
def wanted (ops : List Oper) (o : Oper) (st : St) : Option Bool :=
  match o.guard with
  | none => some true
  | some (j, b) => match (ops[j]?).bind (·.dst) with
    | some d => match st.get d with
      | .bool t => some (t == b)
      | .tup [] => some false
      | _ => none
    | none => none
def evOps (E : Env) (Φ : Phi) (all : List Oper) : Nat → List Oper → St → Option St
  | _, [], st => some st
  | nid, o :: r, st => (wanted all o st).bind fun t =>
      if t then (evOp E Φ nid o st).bind fun st => evOps E Φ all (nid + 8) r st
      else (st.put o.dst (.tup [])).bind fun st => evOps E Φ all (nid + 8) r st
def evOpQ (E : Env) (Φ : Phi) (nid : Nat) (o : Oper) (st : St) : Option St :=
  match o.op with
  | .alloc t => evAlloc E.P t nid o.dst st
  | .box _ x => evBox nid o.dst (st.val x) st
  | .buildSlice t len ps => if (ps.toList.flatMap fun p => (st.val p.2).rows) = [] then evBuildSlice E.P t len (ps.toList.map fun p => (p.1, st.val p.2)) nid o.dst st else none
  | .makeSlice t l c => evMakeSlice E.P t (st.val l) (st.val c) nid o.dst st
  | .assign x => st.put o.dst (st.val x)
  | .call { callee := .builtin .append, args := as, argTypes := ts } => match as.toList, ts.toList with
    | [s, x], [t, u] => (match st.val s with
      | .nils => if spent st.tree (st.val x) = [] then evAppend E.P t u .nils (st.val x) nid o.dst st else none
      | _ => none)
    | _, _ => none
  | .call { callee := .value f, args := as, .. } => match st.val f with
    | .clo n caps => if (E.md n).all (· == .ro) then (evRo Φ st.box nid n (as.toList.map st.val ++ caps)).bind fun (v, ids) => match ids with
        | [] => st.put o.dst v
        | _ => none
      else none
    | _ => none
  | _ => none
def touched (o : Oper) (st : St) : Option (List Nat) :=
  match o.op with
  | .buildSlice _ _ ps => some (ps.toList.flatMap fun p => (st.val p.2).rows)
  | .call { callee := .builtin .append, args := as, argTypes := _ } => match as.toList with
    | [s, x] => some ((st.val s).rows ++ spent st.tree (st.val x))
    | _ => none
  | _ => none
def calm (st : St) (ids : List Nat) (ld : Bool) (v : AV) : Bool :=
  (v.rows.all fun i => !(decide (i ∈ ids))) && (match v with
    | .ptr id _ => !ld || (match st.box id with | some cs => (AV.rowss cs).all fun i => !(decide (i ∈ ids)) | none => true)
    | _ => true)
def slid (E : Env) (o : Oper) (st : St) : Option (List Nat × List Nat) :=
  match o.op with
  | .call { callee := .value f, args := as, .. } => match st.val f with
    | .clo n [] => if (E.md n).all (· == .ro) = false ∧ (E.md n).all (· != .mut) = true then
        some (giveRows st.box ((E.md n).zip (as.toList.map st.val)) ++ (roArgs ((E.md n).zip (as.toList.map st.val))).flatMap AV.rows, ioBoxes ((E.md n).zip (as.toList.map st.val)))
      else none
    | _ => none
  | .store _ p _ => match st.val p with
    | .ptr id _ => some ([], [id])
    | _ => none
  | _ => none
def away (nid : Nat) (bs : List Nat) (ld : Bool) : AV → Bool
  | .ptr id _ => !ld || (!(decide (id ∈ bs)) && (decide (id < nid) || decide (nid + 8 ≤ id)))
  | _ => true
def evOpS (E : Env) (Φ : Phi) (nid : Nat) (o : Oper) (st : St) (ld l : List Nat) : Option St :=
  match touched o st with
  | some ids => if ((l.all fun t => calm st ids false (st.get t)) && (ld.all fun t => calm st ids true (st.get t))) = true then evOp0 E Φ nid o st else none
  | none => (slid E o st).bind fun p => if ((l.all fun t => calm st p.1 false (st.get t)) && (ld.all fun t => calm st p.1 true (st.get t) && away nid p.2 true (st.get t))) = true then evOp0 E Φ nid o st else none
def isLoad : Op → Bool
  | .load _ _ => true
  | _ => false
def isEff : Op → Bool
  | .alloc _ => true
  | .box _ _ => true
  | .store _ _ _ => true
  | .buildSlice _ _ _ => true
  | .makeSlice _ _ _ => true
  | .assign _ => true
  | .call { callee := .builtin .append, .. } => true
  | .call { callee := .value _, .. } => true
  | _ => false
def stillB (E : Env) (o : Oper) (st : St) : Bool :=
  match o.op with
  | .call { callee := .value f, args := as, .. } => match st.val f with
    | .clo n caps => !((E.md n).all (· == .ro)) || !((as.toList.map st.val ++ caps).any (·.any isPtr))
    | _ => true
  | _ => true
def evOpT (E : Env) (Φ : Phi) (nid : Nat) (o : Oper) (st : St) : Option St := if stillB E o st then evOpQ E Φ nid o st else none
def callV (E : Env) (Φ : Phi) (val : Operand → AV) : Op → Option AV
  | .call { callee := .value f, args := as, .. } => match val f with
    | .clo n caps => if (E.md n).all (· == .ro) = true ∧ (as.toList.map val ++ caps).all isScal = true then (evRo Φ (fun _ => none) 0 n (as.toList.map val ++ caps)).bind fun r => if isScal r.1 = true then some r.1 else none else none
    | _ => none
  | _ => none
def evOpF (E : Env) (Φ : Phi) (o : Oper) (st : St) : Option St := (callV E Φ st.val o.op).bind fun v => st.put o.dst v
def evPlan (E : Env) (Φ : Phi) (all : List Oper) : List (Qt × Nat) → Nat → St → Option St
  | [], _, st => some st
  | (q, i) :: r, nid, st => (all[i]?).bind fun o => (wanted all o st).bind fun t =>
      if t then (match q with | .no => evOpP E Φ nid o st | .quiet => evOpQ E Φ nid o st | .still => evOpT E Φ nid o st | .soft ld l => evOpS E Φ nid o st ld l | .flo => evOpF E Φ o st | .frz _ => none).bind fun st => evPlan E Φ all r (nid + 8) st
      else (st.put o.dst (.tup [])).bind fun st => evPlan E Φ all r (nid + 8) st
def St.openB (t : Nat) (st : St) : Option St :=
  match st.get t with
  | .ptr id _ => (st.box id).map fun cs => (st.freeze (AV.rowss cs)).setBox id (cs.map AV.shutV)
  | _ => none
def opened (p : List (Qt × Nat)) (st : St) : Option St :=
  match p with
  | (.frz t, _) :: _ => st.openB t
  | _ => some st
def unfrz (p : List (Qt × Nat)) : List (Qt × Nat) :=
  match p with
  | (.frz _, i) :: r => (.no, i) :: r
  | p => p
def runPlan (E : Env) (Φ : Phi) (ops : List Oper) (plan : List (Qt × Nat)) (st : St) : Option St := (opened plan st).bind fun s0 => evPlan E Φ ops (unfrz plan) s0.nx s0
def evRegion (E : Env) (Φ : Phi) (plan : List (Qt × Nat)) (ops : List Oper) (draw : Bool) (st : St) : Option St :=
  if draw then (runPlan E Φ ops plan st).map fun s2 => { s2 with nx := st.nx + 8 * plan.length }
  else (evOps E Φ ops st.nx ops st).map fun s2 => { s2 with nx := st.nx + 8 * ops.length }
def deps (o : Oper) : List Nat := o.after.toList.filterMap fun e => if Region.binds .any e then some e.on else none
def dedupN : List Nat → List Nat
  | [] => []
  | i :: r => if r.contains i then dedupN r else i :: dedupN r
def ancOf (seen : List (Nat × List Nat)) (o : Oper) : List Nat := dedupN (deps o ++ (deps o).flatMap fun d => (look d seen).getD [])
def dstIn (l : List Nat) : Option Nat → Bool
  | some d => l.contains d
  | none => false
def isLit (o : Oper) : Bool := o.guard.isNone && (match o.op with
  | .buildSlice _ _ _ => true
  | .makeSlice _ _ _ => true
  | _ => false)
def Qt.isQuiet : Qt → Bool
  | .quiet => true
  | _ => false
def Qt.isStill : Qt → Bool
  | .still => true
  | _ => false
def isAlloc (o : Oper) : Bool := o.guard.isNone && (match o.op with
  | .alloc _ => true
  | _ => false)
def Qt.isFlo : Qt → Bool
  | .flo => true
  | _ => false
def isCallG (o : Oper) : Bool := o.guard.isNone && (match o.op with
  | .call { callee := .value _, .. } => true
  | _ => false)
def hard (fl : List Nat) (i : Nat) (o : Oper) : Bool := isEff o.op && !fl.contains i
def settled (seen : List (Nat × List Nat)) (last : Option Nat) (j : Nat) : Bool := match last with
  | none => false
  | some e => match look e seen with
    | some l => l.contains j
    | none => false
def planOK (ops : Array Oper) (fl al : List Nat) : List (Qt × Nat) → List (Nat × List Nat) → Option Nat → Bool
  | [], seen, _ => (List.range ops.size).all fun i => (look i seen).isSome
  | (q, i) :: r, seen, last => match ops[i]? with
    | none => false
    | some o =>
      let anc := ancOf seen o
      (deps o).all (fun d => (look d seen).isSome) && !(look i seen).isSome &&
      (match last with | none => true | some e => al.contains i || anc.contains e) &&
      ((List.range ops.size).all fun j => match ops[j]? with | some p => !dstIn (o.looksAt ops) p.dst || anc.contains j || (hard fl j p && !al.contains j) | none => true) &&
      ((hard fl i o && !al.contains i && (seen.all fun s => match ops[s.1]? with | some p => anc.contains s.1 || hard fl s.1 p | none => false)) || (seen.all fun s => match ops[s.1]? with | some p => !dstIn (p.looksAt ops) o.dst && (o.dst.isNone || p.dst != o.dst) | none => false)) &&
      !dstIn (o.looksAt ops) o.dst &&
      (hard fl i o || seen.all fun s => !fl.contains s.1 || settled seen last s.1 || (match ops[s.1]? with | some p => !isLit p || !dstIn (o.looksAt ops) p.dst | none => false)) &&
      (if hard fl i o then (match q with
        | .no => (seen.all fun s => match ops[s.1]? with | some p => anc.contains s.1 || hard fl s.1 p | none => false)
        | .quiet => true
        | .still => true
        | .frz _ => false
        | .flo => false
        | .soft ld l => (seen.all fun s => match ops[s.1]? with | some p => anc.contains s.1 || hard fl s.1 p || ((!isLoad p.op || ((p.looksAt ops).all fun t => ld.contains t)) && ((p.looksAt ops).all fun t => l.contains t) && dstIn l p.dst) | none => false))
      else if isEff o.op then (q.isQuiet && isLit o || q.isFlo && isCallG o && !isLit o) && o.dst.isSome else q.isNo && o.dst.isSome) &&
      (al.contains i || seen.all fun s => !al.contains s.1 || anc.contains s.1) &&
      (!al.contains i || (isAlloc o && q.isStill && o.dst.isSome && !fl.contains i)) &&
      (!hard fl i o || q.isStill || (r.all fun s => !al.contains s.2)) &&
      planOK ops fl al r ((i, anc) :: seen) (if hard fl i o && !al.contains i then some i else last)
def litsOf (ops : Array Oper) (plan : List (Qt × Nat)) : List Nat := plan.filterMap fun p => match ops[p.2]? with
  | some o => if p.1.isQuiet && isLit o || p.1.isFlo && isCallG o then some p.2 else none
  | none => none
def alsOf (ops : Array Oper) (plan : List (Qt × Nat)) : List Nat := plan.filterMap fun p => match ops[p.2]? with
  | some o => if p.1.isStill && isAlloc o then some p.2 else none
  | none => none
def planOK1 (ops : Array Oper) (plan : List (Qt × Nat)) : Bool := planOK ops [] (alsOf ops plan) plan [] none || planOK ops (litsOf ops plan) (alsOf ops plan) plan [] none
def planOK2 (ops : Array Oper) (plan : List (Qt × Nat)) : Bool := planOK1 ops (unfrz plan)
def codePin (K : List Nat) : Code → Bool
  | .region id ops draw => ops.toList.all fun o => match o.dst with | some d => !K.contains d | none => true
  | .seq x y => codePin K x && codePin K y
  | .cond _ x y => codePin K x && codePin K y
  | .block _ c => codePin K c
  | .loop c => codePin K c
  | .scope c => codePin K c
  | _ => true
def codeOK (plan : Nat → List (Qt × Nat)) : Code → Bool
  | .region id ops draw => !draw || planOK2 ops (plan id)
  | .seq x y => codeOK plan x && codeOK plan y
  | .cond _ x y => codeOK plan x && codeOK plan y
  | .block _ c => codeOK plan c
  | .loop c => codeOK plan c
  | .scope c => codeOK plan c
  | _ => true
mutual
def AV.boxes : AV → List Nat
  | .ptr id _ => [id]
  | .agg cs => AV.boxess cs
  | .tup cs => AV.boxess cs
  | .clo _ cs => AV.boxess cs
  | _ => []
def AV.boxess : List AV → List Nat
  | [] => []
  | x :: xs => x.boxes ++ AV.boxess xs
end
def keptBoxes (st : St) (np : Nat) (keep : List Nat) : List Nat :=
  dedup (List.range np ++ AV.boxess (keep.map st.get) ++ AV.boxess ((AV.boxess (keep.map st.get)).flatMap fun id => (st.box id).getD []))
def keptRows (st : St) (bs : List Nat) (keep : List Nat) : List Nat :=
  dedup (AV.rowss (keep.map st.get) ++ bs.flatMap fun id => AV.rowss ((st.box id).getD []))
def renameB (g b : List Nat) (v : AV) : AV := v.mapO (fun id fz e sz xs => .own (idx g id) fz e sz xs) (fun id off => if id ∈ b then .ptr (idx b id) off else .undef) (fun _ _ _ _ _ _ _ _ => .undef) (fun _ => .nils)
def gc (np : Nat) (keep : List Nat) (st : St) : Option St :=
  let b := keptBoxes st np keep
  let g := keptRows st b keep
  if nodupB b ∧ nodupB g ∧ b.all (fun id => (st.box id).isSome) ∧ (List.range np).all (fun i => decide (b[i]? = some i)) ∧ (keep.map st.get ++ b.flatMap fun id => (st.box id).getD []).all (fun v => v.rows.all fun r => decide (r ∈ g)) then
    some { sl := keep.map fun i => (i, renameB g b (st.get i)), bx := numbered 0 (b.map fun id => ((st.box id).getD []).map (renameB g b)), nx := g.length + b.length, nt := st.nt, tree := st.tree }
  else none
def firstRegion : Code → Nat
  | .region id _ _ => id
  | .seq x y => match x with
    | .label _ => firstRegion y
    | x => firstRegion x
  | .block _ c => firstRegion c
  | .loop c => firstRegion c
  | .cond _ x _ => firstRegion x
  | .scope c => firstRegion c
  | _ => 0
def iter (step : St → Option (Exit × St)) (head : St → Option St) : Nat → St → Option (Exit × St)
  | 0, _ => none
  | n + 1, st => (head st).bind fun st => (step st).bind fun (e, st') => match e with
    | .normal => iter step head n st'
    | e => some (e, st')
def ev (E : Env) (Φ : Phi) (n f np : Nat) : Code → St → Option (Exit × St)
  | .skip, st => some (.normal, st)
  | .region id ops draw, st => (evRegion E Φ (E.plan f id) ops.toList draw st).map fun st => (.normal, st)
  | .seq x y, st => (ev E Φ n f np x st).bind fun (e, st') => match e with
    | .normal => ev E Φ n f np y st'
    | e => some (e, st')
  | .cond c x y, st => match st.val c with
    | .bool b => if b then ev E Φ n f np x st else ev E Φ n f np y st
    | _ => none
  | .block id c, st => (ev E Φ n f np c st).map fun (e, st') => match e with
    | .exit j => (if j = id then .normal else .exit j, st')
    | e => (e, st')
  | .loop c, st => iter (ev E Φ n f np c) (gc np (E.keep f (firstRegion c))) n st
  | .exit id, st => some (.exit id, st)
  | .scope c, st => (ev E Φ n f np c st).bind fun (e, st') => match e with
    | .goto _ => none
    | e => some (e, st')
  | .label _, st => some (.normal, st)
  | .ret, st => some (.ret, st)
  | _, _ => none
def resultOf (P : Program) (st : St) : ResultVar → Option AV
  | .tmp t => some (st.get t)
  | .cell a t => evLoad P st.box t (st.get a)
def resultsOf (P : Program) (st : St) : List ResultVar → Option (List AV)
  | [] => some []
  | r :: rs => (resultOf P st r).bind fun v => (resultsOf P st rs).map (v :: ·)
def isBad (x : AV) : Bool := isPtr x || x.isUndef
def noPtr (v : AV) : Bool := !v.any isBad
def mutSlots : Nat → List Mode → List Nat
  | _, [] => []
  | i, .mut :: r => i :: mutSlots (i + 1) r
  | i, _ :: r => mutSlots (i + 1) r
def tupOf : List AV → AV
  | [v] => v
  | vs => .tup vs
def newBox (np : Nat) : AV → List Nat
  | .ptr id 0 => if np ≤ id then [id] else []
  | _ => []
def okRet (np : Nat) : AV → Bool
  | .ptr id 0 => decide (np ≤ id)
  | v => noPtr v
def renameR (g b : List Nat) (v : AV) : AV := v.mapO (fun id fz e sz xs => .own (idx g id) fz e sz xs) (fun id off => if id ∈ b then .ptr (idx b id) off else .undef) (fun _ _ _ _ _ _ _ _ => .undef) (fun _ => .nils)
def boxesOf (st : St) : List Nat → Option (List (List AV))
  | [] => some []
  | i :: r => (st.box i).bind fun cs => (boxesOf st r).map (cs :: ·)
def finish (P : Program) (md : List Mode) (rs : List ResultVar) (np : Nat) (st : St) : Option (AV × List (List AV)) :=
  (resultsOf P st rs).bind fun vs =>
    let ret := tupOf vs
    match mutSlots 0 md with
    | [] =>
      let b := List.range np ++ newBox np ret
      (boxesOf st b).bind fun ios =>
        let g := dedup (ret.rows ++ ios.flatMap AV.rowss)
        if okRet np ret = true ∧ (ios.all fun cs => cs.all noPtr) = true ∧ nodupB g = true ∧ nodupB b = true ∧ ((ret.rows ++ ios.flatMap AV.rowss).all fun r => decide (r ∈ g)) = true then some (renameR g b ret, ios.map fun cs => cs.map (rename g)) else none
    | m :: ms =>
      let xs := (m :: ms).map st.get
      let g := dedup (ret.rows ++ AV.rowss xs)
      if np = 0 ∧ noPtr ret = true ∧ xs.all noPtr = true ∧ nodupB g = true ∧ ((ret.rows ++ AV.rowss xs).all fun r => decide (r ∈ g)) = true then some (rename g ret, xs.map fun x => [rename g x]) else none
def start (tree : Bool) (fn : Func) (args : List AV) (ios : List (List AV)) : St :=
  { sl := numbered 0 args, bx := numbered 0 ios, nx := 16, nt := max fn.ntmps args.length, tree := tree }
def body (E : Env) (Φ : Phi) (n f : Nat) (args : List AV) (ios : List (List AV)) : Option (AV × List (List AV)) :=
  (E.P.funcs[f]?).bind fun fn => fn.body.bind fun c =>
    (ev E Φ n f ios.length c (start (E.tree f) fn args ios)).bind fun (e, st) => match e with
      | .normal => finish E.P (E.md f) fn.results.toList ios.length st
      | .ret => finish E.P (E.md f) fn.results.toList ios.length st
      | _ => none
def run (E : Env) (ext : Nat → Option (List AV → List (List AV) → Option (AV × List (List AV)))) : Nat → Phi
  | 0, _, _, _ => none
  | n + 1, f, args, ios => match ext f with
    | some g => g args ios
    | none => if E.ok f then body E (run E ext n) n f args ios else none
end Go.Proofs.Ytggkeechdakccaa.Flat
/-
What it means that an abstract value stands for a value of the machine.
-/
namespace Go.Proofs.Ytggkeechdakccaa.Flat
def flat (xs : List AV) : List AV := xs.flatMap AV.cells
theorem flat_cons (x : AV) (xs : List AV) : flat (x :: xs) = x.cells ++ flat xs := rfl
theorem flat_append (xs ys : List AV) : flat (xs ++ ys) = flat xs ++ flat ys := by simp [flat]
theorem flat_length {xs : List AV} {sz : Nat} (h : ∀ x ∈ xs, x.cells.length = sz) : (flat xs).length = xs.length * sz := by
  induction xs with
  | nil => simp [flat]
  | cons x xs ih =>
    rw [flat_cons, List.length_append, h x (by simp), ih (fun y hy => h y (by simp [hy])), List.length_cons, Nat.add_mul, Nat.one_mul, Nat.add_comm]
theorem flat_at {xs : List AV} {sz : Nat} (h : ∀ x ∈ xs, x.cells.length = sz) (i j : Nat) (x : AV) (hx : xs[i]? = some x) (hj : j < sz) : (flat xs)[i * sz + j]? = x.cells[j]? := by
  induction xs generalizing i with
  | nil => simp at hx
  | cons y ys ih =>
    cases i with
    | zero =>
      obtain rfl : y = x := by simpa using hx
      rw [flat_cons, Nat.zero_mul, Nat.zero_add, List.getElem?_append_left (by rw [h y (by simp)]; exact hj)]
    | succ i =>
      have hy := h y (by simp)
      rw [flat_cons, List.getElem?_append_right (by rw [hy, Nat.add_mul]; omega), hy]
      have e : (i + 1) * sz + j - sz = i * sz + j := by rw [Nat.add_mul]; omega
      rw [e]
      exact ih (fun z hz => h z (by simp [hz])) i (by simpa using hx)
theorem add_eq {ad : Addr} (h : ad.spot = none) (j : Nat) : ad.add j = ⟨ad.block, ad.off + j, none⟩ := by
  cases ad
  simp only at h
  subst h
  unfold Addr.add
  split
  · rename_i h; subst h; rfl
  · rfl
abbrev Cells := Bool → Nat → Nat → Prop
def sub (fl : Bool) (S : Cells) : Cells := fun g b o => (fl = true ∨ g = false) ∧ S g b o
theorem sub_le {fl : Bool} {S : Cells} (g : Bool) (b o : Nat) (h : sub fl S g b o) : S g b o := h.2
inductive RO (w : World) : Cells → AV → Value → Prop
  | undef (S : Cells) (v : Value) : RO w S .undef v
  | gone (S : Cells) (v : Value) (h : v.oneCell' = true) : RO w S .gone v
  | int (S : Cells) (k : IntKind) (n : Int) : RO w S (.int k n) (.int k n)
  | bool (S : Cells) (b : Bool) : RO w S (.bool b) (.bool b)
  | str (S : Cells) (s : ByteArray) : RO w S (.str s) (.string s)
  | slNil (S : Cells) (fl : Bool) (A : Option Addr) (c : Nat) (h : A = none → c = 0) : RO w S (.sl fl []) (.slice A 0 c)
  | sl (S : Cells) (fl : Bool) (xs : List AV) (ad : Addr) (c sz : Nat) (cv : Nat → Value) (hne : xs ≠ []) (hc : xs.length ≤ c) (hsp : ad.spot = none)
      (hsz : ∀ x ∈ xs, x.cells.length = sz) (hcell : ∀ y ∈ flat xs, y.isCell = true)
      (hS : ∀ j, j < xs.length * sz → S fl ad.block (ad.off + j) ∧ w.cell? (ad.add j) = some (cv j))
      (hr : ∀ j (h : j < (flat xs).length), RO w (sub fl S) (flat xs)[j] (cv j)) : RO w S (.sl fl xs) (.slice (some ad) xs.length c)
  | cptr (S : Cells) (cs : List AV) (ad : Addr) (cv : Nat → Value) (hsp : ad.spot = none) (hS : ∀ j, j < cs.length → (∃ fl, S fl ad.block (ad.off + j)) ∧ w.cell? (ad.add j) = some (cv j))
      (hr : ∀ j (h : j < cs.length), RO w S cs[j] (cv j)) : RO w S (.cptr cs) (.pointer (some ad))
  | agg (S : Cells) (cs : List AV) (vs : Array Value) (hl : vs.size = cs.length) (hr : ∀ j (h : j < cs.length), RO w S cs[j] (vs.getD j undef)) : RO w S (.agg cs) (.agg vs)
  | tup (S : Cells) (cs : List AV) (vs : Array Value) (hl : vs.size = cs.length) (hr : ∀ j (h : j < cs.length), RO w S cs[j] (vs.getD j undef)) : RO w S (.tup cs) (.tuple vs)
  | clo (S : Cells) (f : Nat) (cs : List AV) (vs : Array Value) (hl : vs.size = cs.length) (hr : ∀ j (h : j < cs.length), RO w S cs[j] (vs.getD j undef)) : RO w S (.clo f cs) (.func (.func f) #[] vs)
theorem RO.mono {w w' : World} {S : Cells} {a : AV} {v : Value} (h : RO w S a v) : ∀ {S' : Cells}, (∀ fl b o, S fl b o → S' fl b o) →
    (∀ fl b o, S fl b o → w'.cell? ⟨b, o, none⟩ = w.cell? ⟨b, o, none⟩) → RO w' S' a v := by
  induction h with
  | undef S v => exact fun _ _ => .undef _ v
  | gone S v h => exact fun _ _ => .gone _ v h
  | int S k n => exact fun _ _ => .int _ k n
  | bool S b => exact fun _ _ => .bool _ b
  | str S s => exact fun _ _ => .str _ s
  | slNil S fl A c h => exact fun _ _ => .slNil _ fl A c h
  | sl S fl xs ad c sz cv hne hcap hsp hsz hcell hs hr ih =>
    intro S' hS hw
    refine .sl _ fl xs ad c sz cv hne hcap hsp hsz hcell (fun j hj => ⟨hS _ _ _ (hs j hj).1, ?_⟩) (fun j hj => ih j hj (fun g b o hg => ⟨hg.1, hS _ _ _ hg.2⟩) (fun g b o hg => hw _ _ _ hg.2))
    rw [add_eq hsp, hw _ _ _ (hs j hj).1, ← add_eq hsp]
    exact (hs j hj).2
  | cptr S cs ad cv hsp hs hr ih =>
    intro S' hS hw
    refine .cptr _ cs ad cv hsp (fun j hj => ?_) (fun j hj => ih j hj hS hw)
    obtain ⟨⟨fl, h1⟩, h2⟩ := hs j hj
    refine ⟨⟨fl, hS _ _ _ h1⟩, ?_⟩
    rw [add_eq hsp, hw _ _ _ h1, ← add_eq hsp]
    exact h2
  | agg S cs vs hl hr ih => exact fun hS hw => .agg _ cs vs hl (fun j hj => ih j hj hS hw)
  | tup S cs vs hl hr ih => exact fun hS hw => .tup _ cs vs hl (fun j hj => ih j hj hS hw)
  | clo S f cs vs hl hr ih => exact fun hS hw => .clo _ f cs vs hl (fun j hj => ih j hj hS hw)
theorem AV.mapOs_eq (f : Nat → Bool → Nat → Nat → List AV → AV) (g : Nat → Nat → AV) (h : Bool → Nat → Bool → Nat → Nat → List AV → Nat → Nat → AV) (z : Unit → AV) (cs : List AV) :
    AV.mapOs f g h z cs = cs.map (AV.mapO f g h z) := by
  induction cs with
  | nil => rfl
  | cons x xs ih => simp only [AV.mapOs, List.map_cons, ih]
theorem map_id_of {cs : List AV} {F : AV → AV} (h : ∀ j (hj : j < cs.length), F cs[j] = cs[j]) : cs.map F = cs := by
  apply List.ext_getElem (by simp)
  intro i h1 h2
  rw [List.getElem_map]
  exact h i h2
theorem RO.mapO_eq {w : World} {S : Cells} {f : Nat → Bool → Nat → Nat → List AV → AV} {g : Nat → Nat → AV} {h : Bool → Nat → Bool → Nat → Nat → List AV → Nat → Nat → AV} {z : Unit → AV}
    {a : AV} {v : Value} (hr : RO w S a v) : a.mapO f g h z = a := by
  induction hr with
  | agg S cs vs hl hr ih => rw [AV.mapO, AV.mapOs_eq, map_id_of ih]
  | tup S cs vs hl hr ih => rw [AV.mapO, AV.mapOs_eq, map_id_of ih]
  | clo S f cs vs hl hr ih => rw [AV.mapO, AV.mapOs_eq, map_id_of ih]
  | _ => rfl
theorem RO.one {w : World} {S : Cells} {a : AV} {v : Value} (h : RO w S a v) (hc : a.isCell = true) : v.oneCell' = true := by
  cases h <;> first | rfl | assumption | simp [AV.isCell] at hc
def rowOff : Value → Nat
  | .slice (some ad) _ _ => ad.off
  | _ => 0
def rowLen : Value → Nat
  | .slice _ n _ => n
  | _ => 0
inductive TR (w : World) (S : Cells) : (Nat → Prop) → AV → Value → Prop
  | ro {a : AV} {v : Value} (F : Nat → Prop) (h : RO w S a v) : TR w S F a v
  | nil (F : Nat → Prop) (e sz : Nat) : TR w S F (.tr e sz []) (.slice none 0 0)
  | row (F : Nat → Prop) (e sz : Nat) (xs : List AV) (g off cap : Nat) (cur : Array Value) (Fs : Nat → Nat → Prop) (hg : F g) (hh : w.heap[g]? = some (.cells cur e (0, 0)))
      (hn : xs.length ≤ cap) (hm : cap ≤ maxLen) (hs : off + cap * sz ≤ cur.size) (hsz : ∀ x ∈ xs, x.cells.length = sz) (hc : ∀ y ∈ flat xs, y.isCell = true)
      (hF : ∀ j b, Fs j b → F b ∧ b ≠ g) (hd : ∀ i j b, Fs i b → Fs j b → i = j)
      (hr : ∀ j (h : j < (flat xs).length), TR w S (Fs j) (flat xs)[j] (cur.getD (off + j) undef)) : TR w S F (.tr e sz xs) (.slice (some ⟨g, off, none⟩) xs.length cap)
theorem TR.mono {w w' : World} {S S' : Cells} {F : Nat → Prop} {a : AV} {v : Value} (h : TR w S F a v) : ∀ {F' : Nat → Prop}, (∀ fl b o, S fl b o → S' fl b o) →
    (∀ fl b o, S fl b o → w'.cell? ⟨b, o, none⟩ = w.cell? ⟨b, o, none⟩) → (∀ b, F b → w'.heap[b]? = w.heap[b]?) → (∀ b, F b → F' b) → TR w' S' F' a v := by
  induction h with
  | ro F h => exact fun hS hw _ _ => .ro _ (h.mono hS hw)
  | nil F e sz => exact fun _ _ _ _ => .nil _ e sz
  | row F e sz xs g off cap cur Fs hg hh hn hm hs hsz hc hF hd hr ih =>
    exact fun hS hw hb hFF => .row _ e sz xs g off cap cur Fs (hFF g hg) ((hb g hg).trans hh) hn hm hs hsz hc (fun j b h => ⟨hFF b (hF j b h).1, (hF j b h).2⟩) hd
      (fun j hj => ih j hj hS hw (fun b h => hb b (hF j b h).1) (fun b h => h))
theorem TR.one {w : World} {S : Cells} {F : Nat → Prop} {a : AV} {v : Value} (h : TR w S F a v) (hc : a.isCell = true) : v.oneCell' = true := by
  cases h with
  | ro _ h => exact h.one hc
  | nil => rfl
  | row => rfl
theorem TR.toRO {w : World} {S : Cells} {F : Nat → Prop} {a : AV} {v : Value} (h : TR w S F a v) (hn : ∀ e sz xs, a ≠ .tr e sz xs) : RO w S a v := by
  cases h with
  | ro _ h => exact h
  | nil => exact absurd rfl (hn _ _ _)
  | row => exact absurd rfl (hn _ _ _)
structure RowAt (w : World) (S : Cells) (F : Nat → Prop) (e sz : Nat) (xs : List AV) (g off cap : Nat) (cur : Array Value) (Fs : Nat → Nat → Prop) : Prop where
  own : F g
  heap : w.heap[g]? = some (.cells cur e (0, 0))
  le : xs.length ≤ cap
  max : cap ≤ maxLen
  size : off + cap * sz ≤ cur.size
  wide : ∀ x ∈ xs, x.cells.length = sz
  cell : ∀ y ∈ flat xs, y.isCell = true
  sub : ∀ j b, Fs j b → F b ∧ b ≠ g
  dis : ∀ i j b, Fs i b → Fs j b → i = j
  rel : ∀ j (h : j < (flat xs).length), TR w S (Fs j) (flat xs)[j] (cur.getD (off + j) undef)
theorem RowAt.tr {w : World} {S : Cells} {F : Nat → Prop} {e sz : Nat} {xs : List AV} {g off cap : Nat} {cur : Array Value} {Fs : Nat → Nat → Prop} (h : RowAt w S F e sz xs g off cap cur Fs) :
    TR w S F (.tr e sz xs) (.slice (some ⟨g, off, none⟩) xs.length cap) := .row F e sz xs g off cap cur Fs h.own h.heap h.le h.max h.size h.wide h.cell h.sub h.dis h.rel
theorem TR.cases {w : World} {S : Cells} {F : Nat → Prop} {e sz : Nat} {xs : List AV} {v : Value} (h : TR w S F (.tr e sz xs) v) :
    (xs = [] ∧ v = .slice none 0 0) ∨ ∃ g off cap cur Fs, v = .slice (some ⟨g, off, none⟩) xs.length cap ∧ RowAt w S F e sz xs g off cap cur Fs := by
  cases h with
  | ro _ h => cases h
  | nil => exact .inl ⟨rfl, rfl⟩
  | row _ _ _ _ g off cap cur Fs hg hh hn hm hs hsz hc hF hd hr => exact .inr ⟨g, off, cap, cur, Fs, rfl, ⟨hg, hh, hn, hm, hs, hsz, hc, hF, hd, hr⟩⟩
theorem TR.wide {w : World} {S : Cells} {F : Nat → Prop} {e sz : Nat} {xs : List AV} {v : Value} (h : TR w S F (.tr e sz xs) v) : (∀ x ∈ xs, x.cells.length = sz) ∧ ∀ y ∈ flat xs, y.isCell = true := by
  rcases h.cases with ⟨rfl, _⟩ | ⟨g, off, cap, cur, Fs, _, h⟩
  · exact ⟨by simp, by simp [flat]⟩
  · exact ⟨h.wide, h.cell⟩
section
variable {w : World} {S : Cells} {F : Nat → Prop} {e sz : Nat} {xs : List AV} {g off cap : Nat} {cur : Array Value} {Fs : Nat → Nat → Prop}
theorem RowAt.flatLen (h : RowAt w S F e sz xs g off cap cur Fs) : (flat xs).length = xs.length * sz := flat_length h.wide
theorem RowAt.inCur (h : RowAt w S F e sz xs g off cap cur Fs) {j : Nat} (hj : j < xs.length * sz) : off + j < cur.size := by
  have h1 : xs.length * sz ≤ cap * sz := Nat.mul_le_mul_right _ h.le
  have := h.size
  omega
theorem RowAt.cellAt (h : RowAt w S F e sz xs g off cap cur Fs) {j : Nat} (hj : j < xs.length * sz) : w.cell? ⟨g, off + j, none⟩ = some (cur.getD (off + j) undef) := by
  have := h.inCur hj
  simp only [World.cell?, h.heap]
  rw [Array.getD_eq_getD_getElem?]
  simp [this]
theorem RowAt.elem (h : RowAt w S F e sz xs g off cap cur Fs) {i k : Nat} {x : AV} (hx : xs[i]? = some x) (hk : k < x.cells.length) :
    i * sz + k < xs.length * sz ∧ x.cells.length = sz ∧ TR w S (Fs (i * sz + k)) x.cells[k] (cur.getD (off + (i * sz + k)) undef) := by
  have hil : i < xs.length := (List.getElem?_eq_some_iff.1 hx).1
  have hxl := h.wide x (List.mem_of_getElem? hx)
  have hmul : (i + 1) * sz ≤ xs.length * sz := Nat.mul_le_mul_right _ hil
  rw [Nat.add_mul, Nat.one_mul] at hmul
  have hlt : i * sz + k < xs.length * sz := by omega
  have h12 := flat_at h.wide i k x hx (by omega)
  have h11 := h.rel (i * sz + k) (by rw [h.flatLen]; exact hlt)
  rw [List.getElem?_eq_getElem (by rw [h.flatLen]; exact hlt), List.getElem?_eq_getElem hk] at h12
  rw [Option.some.inj h12] at h11
  exact ⟨hlt, hxl, h11⟩
end
structure Gh where
  nb : Nat
  S : Cells
  μ : Nat → Option Nat
  ρ : Nat → Value
  lim : Nat → Nat
  al : Nat → Prop
  own : Nat → Nat → Prop
  esz : Nat → Nat
  /-- Variables below it are the caller's. -/
  np : Nat := 0
def RowOK (w : World) (G : Gh) (id : Nat) (fz : Bool) (e sz : Nat) (xs : List AV) : Prop :=
  G.al id ∧ G.esz id = sz ∧ G.lim id ≤ (if fz then rowOff (G.ρ id) + xs.length * sz else 0) ∧ TR w G.S (G.own id) (.tr e sz xs) (G.ρ id)
theorem RowOK.at {w : World} {G : Gh} {id : Nat} {fz : Bool} {e sz : Nat} {xs : List AV} {ad : Addr} {n c : Nat} (h : RowOK w G id fz e sz xs) (hρ : G.ρ id = .slice (some ad) n c) :
    ∃ g off cur Fs, ad = ⟨g, off, none⟩ ∧ n = xs.length ∧ RowAt w G.S (G.own id) e sz xs g off c cur Fs := by
  rcases h.2.2.2.cases with ⟨_, h1⟩ | ⟨g, off, cap, cur, Fs, h1, h2⟩
  · rw [hρ] at h1; simp at h1
  · rw [hρ] at h1
    simp only [Value.slice.injEq, Option.some.injEq] at h1
    obtain ⟨rfl, rfl, rfl⟩ := h1
    exact ⟨g, off, cur, Fs, rfl, rfl, h2⟩
inductive RV (w : World) (G : Gh) : AV → Value → Prop
  | ro {a : AV} {v : Value} (h : RO w G.S a v) : RV w G a v
  | nils : RV w G .nils (.slice none 0 0)
  | own (id : Nat) (fz : Bool) (e sz : Nat) (xs : List AV) (h : RowOK w G id fz e sz xs) : RV w G (.own id fz e sz xs) (G.ρ id)
  | ptr (id off b : Nat) (h : G.μ id = some b) : RV w G (.ptr id off) (.pointer (some ⟨b, off, none⟩))
  | eptr (id : Nat) (fz : Bool) (e sz : Nat) (xs : List AV) (i off : Nat) (ad : Addr) (n c : Nat) (h : RowOK w G id fz e sz xs) (hρ : G.ρ id = .slice (some ad) n c) :
      RV w G (.eptr false id fz e sz xs i off) (.pointer (some (ad.add (i * sz + off))))
  | sub (id : Nat) (fz : Bool) (e sz : Nat) (xs : List AV) (i off : Nat) (ad : Addr) (n c : Nat) (v : Value) (x : AV) (h : RowOK w G id fz e sz xs) (hρ : G.ρ id = .slice (some ad) n c)
      (hx : xs[i]? = some x) (ho : off < x.cells.length) (hv : w.cell? (ad.add (i * sz + off)) = some v) : RV w G (.eptr true id fz e sz xs i off) v
  | agg (cs : List AV) (vs : Array Value) (hl : vs.size = cs.length) (hr : ∀ j (h : j < cs.length), RV w G cs[j] (vs.getD j undef)) : RV w G (.agg cs) (.agg vs)
  | tup (cs : List AV) (vs : Array Value) (hl : vs.size = cs.length) (hr : ∀ j (h : j < cs.length), RV w G cs[j] (vs.getD j undef)) : RV w G (.tup cs) (.tuple vs)
  | clo (f : Nat) (cs : List AV) (vs : Array Value) (hl : vs.size = cs.length) (hr : ∀ j (h : j < cs.length), RV w G cs[j] (vs.getD j undef)) : RV w G (.clo f cs) (.func (.func f) #[] vs)
theorem getD_map_lt {cs : List AV} (F : AV → AV) (j : Nat) (h : j < (cs.map F).length) : (cs.map F)[j] = F (cs[j]'(by simpa using h)) := by simp
theorem RV.map {w w' : World} {G G' : Gh} {f : Nat → Bool → Nat → Nat → List AV → AV} {g : Nat → Nat → AV} {h : Bool → Nat → Bool → Nat → Nat → List AV → Nat → Nat → AV} {z : Unit → AV}
    (hro : ∀ a v, RO w G.S a v → RO w' G'.S a v)
    (hown : ∀ id fz e sz xs, RowOK w G id fz e sz xs → RV w' G' (f id fz e sz xs) (G.ρ id))
    (hptr : ∀ id off b, G.μ id = some b → RV w' G' (g id off) (.pointer (some ⟨b, off, none⟩)))
    (heptr : ∀ id fz e sz xs i off ad n c, RowOK w G id fz e sz xs → G.ρ id = .slice (some ad) n c → RV w' G' (h false id fz e sz xs i off) (.pointer (some (ad.add (i * sz + off)))))
    (hsub : ∀ id fz e sz xs i off ad n c v x, RowOK w G id fz e sz xs → G.ρ id = .slice (some ad) n c → xs[i]? = some x → off < x.cells.length → w.cell? (ad.add (i * sz + off)) = some v → RV w' G' (h true id fz e sz xs i off) v)
    (hz : RV w' G' (z ()) (.slice none 0 0))
    {a : AV} {v : Value} (hr : RV w G a v) : RV w' G' (a.mapO f g h z) v := by
  induction hr with
  | ro hr => rw [hr.mapO_eq]; exact .ro (hro _ _ hr)
  | nils => exact hz
  | own id fz e sz xs hk => exact hown _ _ _ _ _ hk
  | ptr id off b hk => exact hptr _ _ _ hk
  | eptr id fz e sz xs i off ad n c hk hρ => exact heptr _ _ _ _ _ _ _ _ _ _ hk hρ
  | sub id fz e sz xs i off ad n c v x hk hρ hx ho hv => exact hsub _ _ _ _ _ _ _ _ _ _ _ _ hk hρ hx ho hv
  | agg cs vs hl hr ih => rw [AV.mapO, AV.mapOs_eq]; exact .agg _ _ (by simpa using hl) fun j hj => by rw [getD_map_lt]; exact ih j (by simpa using hj)
  | tup cs vs hl hr ih => rw [AV.mapO, AV.mapOs_eq]; exact .tup _ _ (by simpa using hl) fun j hj => by rw [getD_map_lt]; exact ih j (by simpa using hj)
  | clo n cs vs hl hr ih => rw [AV.mapO, AV.mapOs_eq]; exact .clo _ _ _ (by simpa using hl) fun j hj => by rw [getD_map_lt]; exact ih j (by simpa using hj)
class Kept where
  block : Nat → Option Obj
instance (priority := low) keptNone : Kept := ⟨fun _ => none⟩
structure Inv [K : Kept] (w : World) (G : Gh) (X : Nat → Prop) : Prop where
  nb : G.nb ≤ w.heap.size
  row : ∀ i g, G.al i → G.own i g → X g ∧ g < w.heap.size ∧ G.nb ≤ g
  plain : ∀ i g, G.al i → G.own i g → ∃ cur e, w.heap[g]? = some (.cells cur e (0, 0))
  box : ∀ i b, G.μ i = some b → X b ∧ b < w.heap.size ∧ G.nb ≤ b
  rows : ∀ i j g, G.al i → G.al j → i ≠ j → G.own i g → ¬ G.own j g
  boxes : ∀ i j b, G.μ i = some b → G.μ j = some b → i = j
  rowBox : ∀ i j b, G.al i → G.own i b → G.μ j ≠ some b
  lt : ∀ fl b o, G.S fl b o → b < w.heap.size
  old : ∀ b o, G.S false b o → b < G.nb
  new : ∀ b o, G.S true b o → G.nb ≤ b ∧ ∃ cur e, w.heap[b]? = some (.cells cur e (0, 0))
  sBox : ∀ fl b o i, G.S fl b o → G.μ i ≠ some b
  sRow : ∀ fl b o i, G.S fl b o → G.al i → G.own i b → (G.ρ i).ownBlock = some b ∧ o < G.lim i
  kept : ∀ b v, K.block b = some v → w.heap[b]? = some v ∧ ¬ X b
theorem heap_lt {w : World} {b : Nat} {v : Obj} (h : w.heap[b]? = some v) : b < w.heap.size := (Array.getElem?_eq_some_iff.1 h).1
theorem Inv.keeps [K : Kept] {w w' : World} {G : Gh} {X : Nat → Prop} (hi : Inv w G X) (hb : ∀ b, b < w.heap.size → ¬ X b → w'.heap[b]? = w.heap[b]?) : ∀ b v, K.block b = some v → w'.heap[b]? = some v ∧ ¬ X b := fun b v h =>
  ⟨(hb b (heap_lt (hi.kept b v h).1) (hi.kept b v h).2).trans (hi.kept b v h).1, (hi.kept b v h).2⟩
def BoxOK (w : World) (G : Gh) (id : Nat) (cs : List AV) : Prop :=
  ∃ b vs T, G.μ id = some b ∧ w.heap[b]? = some (.cells vs T (0, 0)) ∧ vs.size = cs.length ∧ (∀ y ∈ cs, y.isCell = true ∨ y = .undef) ∧ (∀ v ∈ vs.toList, v.oneCell' = true) ∧
    ∀ j (h : j < cs.length), RV w G cs[j] (vs.getD j undef)
structure Frm (w0 : World) (X0 : Nat → Prop) (w : World) : Prop where
  os : w.os = w0.os
  tape : w.tape = w0.tape
  output : w.output = w0.output
  size : w0.heap.size ≤ w.heap.size
  block : ∀ b, b < w0.heap.size → ¬ X0 b → w.heap[b]? = w0.heap[b]?
theorem Frm.refl (w : World) (X0 : Nat → Prop) : Frm w X0 w := ⟨rfl, rfl, rfl, Nat.le_refl _, fun _ _ _ => rfl⟩
end Go.Proofs.Ytggkeechdakccaa.Flat
/-
The operations that change nothing: what the evaluator tells of them is what the machine does.
-/
namespace Go.Proofs.Ytggkeechdakccaa.Flat
variable {P : Program}
theorem tiOf_some {t : Nat} {ti : TI} (h : tiOf P t = some ti) : ∃ i d, P.info? t = some i ∧ P.underlying t = some d ∧
    ti = { tag := tagD d, agg := isAggD d, size := i.size, bytes := i.bytes, zero := i.zero, elem := elemD d, fields := fieldsD P d, eqs := eqsOf P t d } := by
  unfold tiOf at h
  split at h
  · rename_i i d hi hd
    exact ⟨i, d, hi, hd, by simpa using h.symm⟩
  · simp at h
theorem run_und {t : Nat} {d : TypeDesc} (h : P.underlying t = some d) (w : World) : (underlying t).run P w = .ok d w := by simp [underlying, h]
theorem run_info {t : Nat} {i : TypeInfo} (h : P.info? t = some i) (w : World) : (typeInfo t).run P w = .ok i w := by simp [typeInfo, h]
theorem run_size {t : Nat} {ti : TI} (h : tiOf P t = some ti) (w : World) : (sizeOf t).run P w = .ok ti.size w := by
  obtain ⟨i, d, hi, hd, rfl⟩ := tiOf_some h
  simp [sizeOf, run_info hi]
theorem run_agg {t : Nat} {ti : TI} (h : tiOf P t = some ti) (w : World) : (isAgg t).run P w = .ok ti.agg w := by
  obtain ⟨i, d, hi, hd, rfl⟩ := tiOf_some h
  cases d <;> simp [isAgg, run_und hd, isAggD]
theorem run_zero {t : Nat} {ti : TI} {z : Value} (h : tiOf P t = some ti) (hz : ti.zero = some z) (w : World) : (zeroValue t).run P w = .ok z w := by
  obtain ⟨i, d, hi, hd, rfl⟩ := tiOf_some h
  simp only at hz
  simp [zeroValue, run_info hi, hz]
structure Sees (bx : Nat → Option (List AV)) (val : Operand → AV) (ρ : Operand → Value) (w : World) (G : Gh) : Prop where
  val : ∀ x, RV w G (val x) (ρ x)
  box : ∀ id cs, bx id = some cs → BoxOK w G id cs
section
variable {w : World} {G : Gh}
theorem RV.one {a : AV} {v : Value} (h : RV w G a v) (hc : a.isCell = true) : v.oneCell' = true := by
  cases h with
  | ro h => exact h.one hc
  | own id fz e sz xs h => exact h.2.2.2.one rfl
  | sub id fz e sz xs i off ad n c v x h hρ hx ho hv =>
    obtain ⟨g, o, cur, Fs, rfl, rfl, hat⟩ := h.at hρ
    obtain ⟨h1, h2, h3⟩ := hat.elem hx ho
    have h4 := hat.cellAt h1
    rw [add_eq rfl, h4] at hv
    rw [← Option.some.inj hv]
    exact h3.one (hat.cell _ (List.mem_flatMap.2 ⟨x, List.mem_of_getElem? hx, List.getElem_mem _⟩))
  | agg => simp [AV.isCell] at hc
  | tup => simp [AV.isCell] at hc
  | _ => rfl
theorem drop_get {α : Type} {l : List α} {k j : Nat} (h : j < (l.drop k).length) : (l.drop k)[j] = l[k + j]'(by simp at h; omega) := by simp
theorem subs_length {id : Nat} {fz : Bool} {e sz : Nat} {xs : List AV} {i : Nat} : ∀ {cs : List AV} {k : Nat}, (AV.subs id fz e sz xs i k cs).length = cs.length
  | [], k => rfl
  | c :: cs, k => by cases c <;> simp [AV.subs, subs_length]
theorem subs_get {id : Nat} {fz : Bool} {e sz : Nat} {xs : List AV} {i : Nat} : ∀ {cs : List AV} {k : Nat} (j : Nat) (hj : j < cs.length),
    (∃ e' sz' ys, cs[j] = .tr e' sz' ys ∧ (AV.subs id fz e sz xs i k cs)[j]'(by rw [subs_length]; exact hj) = .eptr true id fz e sz xs i (k + j)) ∨
    ((∀ e' sz' ys, cs[j] ≠ .tr e' sz' ys) ∧ (AV.subs id fz e sz xs i k cs)[j]'(by rw [subs_length]; exact hj) = cs[j])
  | [], k, j, hj => by simp at hj
  | c :: cs, k, 0, hj => by cases c <;> simp [AV.subs]
  | c :: cs, k, j + 1, hj => by
    have hj' : j < cs.length := by simpa using hj
    have ih := subs_get (id := id) (fz := fz) (e := e) (sz := sz) (xs := xs) (i := i) (cs := cs) (k := k + 1) j hj'
    have e1 : k + 1 + j = k + (j + 1) := by omega
    rw [e1] at ih
    cases c <;> simpa [AV.subs] using ih
theorem subs_rv {id : Nat} {fz : Bool} {e sz : Nat} {xs : List AV} {i : Nat} {ad : Addr} {n c : Nat} {x : AV} {v : Value} {F : Nat → Prop} (hk : RowOK w G id fz e sz xs) (hρ : G.ρ id = .slice (some ad) n c) (hx : xs[i]? = some x)
    (j : Nat) (hj : j < x.cells.length) (hv : w.cell? (ad.add (i * sz + j)) = some v) (ht : TR w G.S F x.cells[j] v) : RV w G ((AV.subs id fz e sz xs i 0 x.cells)[j]'(by rw [subs_length]; exact hj)) v := by
  rcases subs_get (id := id) (fz := fz) (e := e) (sz := sz) (xs := xs) (i := i) (cs := x.cells) (k := 0) j hj with ⟨e', sz', ys, h1, h2⟩ | ⟨h1, h2⟩
  · rw [h2, Nat.zero_add]
    exact .sub _ _ _ _ _ _ _ ad n c v x hk hρ hx hj hv
  · rw [h2]
    exact .ro (ht.toRO h1)
theorem behind_ok {bx : Nat → Option (List AV)} {p : AV} {pv : Value} {cs : List AV} (hb : ∀ id cs, bx id = some cs → BoxOK w G id cs) (hp : RV w G p pv) (h : behind bx p = some cs) (hne : cs ≠ []) :
    ∃ ad : Addr, pv = .pointer (some ad) ∧ ad.spot = none ∧ ∃ cv : Nat → Value, ∀ j (hj : j < cs.length), w.cell? (ad.add j) = some (cv j) ∧ RV w G cs[j] (cv j) := by
  have hpos : 0 < cs.length := by cases cs <;> simp_all
  cases hp with
  | ro hr =>
    cases hr with
    | cptr _ cs' ad cv hsp hS hr =>
      simp only [behind, Option.some.injEq] at h
      subst h
      exact ⟨ad, rfl, hsp, cv, fun j hj => ⟨(hS j hj).2, .ro (hr j hj)⟩⟩
    | _ => simp [behind] at h
  | ptr id off b hμ =>
    simp only [behind, Option.map_eq_some_iff] at h
    obtain ⟨cs0, h0, rfl⟩ := h
    obtain ⟨b', vs, T, h1, h2, h3, _, _, h4⟩ := hb id cs0 h0
    obtain rfl : b = b' := by rw [hμ] at h1; simpa using h1
    refine ⟨⟨b, off, none⟩, rfl, rfl, fun j => vs.getD (off + j) undef, fun j hj => ?_⟩
    have hj' : off + j < cs0.length := by simp at hj; omega
    constructor
    · rw [add_eq rfl]
      simp only [World.cell?, h2]
      rw [Array.getD_eq_getD_getElem?]
      have : off + j < vs.size := by omega
      simp [this]
    · rw [drop_get hj]
      exact h4 _ hj'
  | eptr id fz e sz xs i off ad n c hk hρ =>
    simp only [behind, Option.map_eq_some_iff] at h
    obtain ⟨x, hx, rfl⟩ := h
    obtain ⟨g, o, cur, Fs, rfl, rfl, hat⟩ := hk.at hρ
    refine ⟨_, rfl, by rw [add_eq rfl], fun j => cur.getD (o + (i * sz + off + j)) undef, fun j hj => ?_⟩
    have hj' : off + j < x.cells.length := by simp [subs_length] at hj; omega
    obtain ⟨h1, h2, h3⟩ := hat.elem hx hj'
    have h4 := hat.cellAt h1
    have e1 : i * sz + (off + j) = i * sz + off + j := by omega
    rw [e1] at h3 h4
    constructor
    · rw [add_eq (ad := ⟨g, o, none⟩) rfl, add_eq rfl]
      simp only [Nat.add_assoc] at h4 ⊢
      exact h4
    · rw [drop_get hj]
      refine subs_rv hk hρ hx (off + j) hj' ?_ h3
      rw [add_eq rfl]
      simp only [Nat.add_assoc] at h4 ⊢
      exact h4
  | _ => simp [behind] at h
theorem list_range_getD (n : Nat) (f : Nat → Value) (j : Nat) (h : j < n) : (List.toArray (List.map f (List.range n))).getD j undef = f j := by
  simp [Array.getD_eq_getD_getElem?, h]
theorem evLoad_ok {bx : Nat → Option (List AV)} {t : Nat} {p a : AV} {pv : Value} (hb : ∀ id cs, bx id = some cs → BoxOK w G id cs) (hp : RV w G p pv) (h : evLoad P bx t p = some a) :
    ∃ v, (Instr.loadAt t pv).run P w = .ok v w ∧ RV w G a v := by
  unfold evLoad at h
  obtain ⟨ti, hti, h⟩ := Option.bind_eq_some_iff.1 h
  obtain ⟨cs, hcs, h⟩ := Option.bind_eq_some_iff.1 h
  unfold takeVal at h
  by_cases hagg : ti.agg = true
  · rw [if_pos hagg] at h
    split at h
    · rename_i hn
      obtain rfl := Option.some.inj h
      by_cases h0 : ti.size = 0
      · -- nothing is loaded
        obtain ⟨ad, rfl⟩ : ∃ ad, pv = .pointer (some ad) := by
          cases hp with
          | ro hr => cases hr with
            | cptr => exact ⟨_, rfl⟩
            | _ => simp [behind] at hcs
          | ptr => exact ⟨_, rfl⟩
          | eptr => exact ⟨_, rfl⟩
          | _ => simp [behind] at hcs
        refine ⟨.agg #[], ?_, ?_⟩
        · have := run_loadCells (P := P) w ad 0 (fun _ => undef) (fun j hj => by omega)
          simp [Instr.loadAt, Instr.sureAddr, loadVar, run_agg hti, run_size hti, hagg, h0, this]
        · rw [h0]; exact .agg _ _ (by simp) (fun j hj => by simp at hj)
      · have hne : cs ≠ [] := by intro e; subst e; simp at hn; omega
        obtain ⟨ad, rfl, hsp, cv, hcv⟩ := behind_ok hb hp hcs hne
        have hl := run_loadCells (P := P) w ad ti.size cv (fun j hj => (hcv j (by omega)).1)
        refine ⟨_, by simp [Instr.loadAt, Instr.sureAddr, loadVar, run_agg hti, run_size hti, hagg, hl]; rfl, ?_⟩
        refine .agg _ _ (by simp; omega) (fun j hj => ?_)
        rw [list_range_getD _ _ _ (by simp at hj; omega)]
        have := (hcv j (by simp at hj; omega)).2
        simpa using this
    · simp at h
  · have hagg' : ti.agg = false := by simpa using hagg
    rw [if_neg hagg] at h
    cases cs with
    | nil => simp at h
    | cons c cs =>
      obtain ⟨ad, rfl, hsp, cv, hcv⟩ := behind_ok hb hp hcs (by simp)
      obtain rfl : c = a := by simpa using h
      have h0 := hcv 0 (by simp)
      rw [add_eq hsp] at h0
      have hcell : w.cell? ad = some (cv 0) := by
        have := h0.1
        cases ad
        simp only at hsp
        subst hsp
        exact this
      refine ⟨cv 0, ?_, by simpa using h0.2⟩
      simp [Instr.loadAt, Instr.sureAddr, loadVar, run_agg hti, hagg', run_load, hcell]
end
end Go.Proofs.Ytggkeechdakccaa.Flat
/-
The operations that change nothing, one by one.
-/
namespace Go.Proofs.Ytggkeechdakccaa.Flat
variable {P : Program} {w : World} {G : Gh}
theorem RV.int_inv {k : IntKind} {n : Int} {v : Value} (h : RV w G (.int k n) v) : v = .int k n := by
  cases h with
  | ro h => cases h; rfl
theorem RV.bool_inv {b : Bool} {v : Value} (h : RV w G (.bool b) v) : v = .bool b := by
  cases h with
  | ro h => cases h; rfl
theorem RV.str_inv {s : ByteArray} {v : Value} (h : RV w G (.str s) v) : v = .string s := by
  cases h with
  | ro h => cases h; rfl
theorem RV.agg_inv {cs : List AV} {v : Value} (h : RV w G (.agg cs) v) : ∃ vs, v = .agg vs ∧ vs.size = cs.length ∧ ∀ j (h : j < cs.length), RV w G cs[j] (vs.getD j undef) := by
  cases h with
  | ro h => cases h with
    | agg _ _ vs hl hr => exact ⟨vs, rfl, hl, fun j hj => .ro (hr j hj)⟩
  | agg _ vs hl hr => exact ⟨vs, rfl, hl, hr⟩
theorem RV.tup_inv {cs : List AV} {v : Value} (h : RV w G (.tup cs) v) : ∃ vs, v = .tuple vs ∧ vs.size = cs.length ∧ ∀ j (h : j < cs.length), RV w G cs[j] (vs.getD j undef) := by
  cases h with
  | ro h => cases h with
    | tup _ _ vs hl hr => exact ⟨vs, rfl, hl, fun j hj => .ro (hr j hj)⟩
  | tup _ vs hl hr => exact ⟨vs, rfl, hl, hr⟩
theorem rvInt (k : IntKind) (n : Int) : RV w G (.int k n) (.int k n) := .ro (.int _ k n)
theorem rvBool (b : Bool) : RV w G (.bool b) (.bool b) := .ro (.bool _ b)
theorem rvStr (s : ByteArray) : RV w G (.str s) (.string s) := .ro (.str _ s)
theorem rvUndef (v : Value) : RV w G .undef v := .ro (.undef _ v)
theorem rvSkip : RV w G (.tup []) undef := .tup [] #[] rfl (fun j hj => by simp at hj)
theorem tagOf_some {t : Nat} {g : Tag} (h : tagOf P t = g) (hne : g ≠ .other) : ∃ d, P.underlying t = some d ∧ tagD d = g := by
  unfold tagOf at h
  split at h
  · rename_i ti hti
    obtain ⟨i, d, hi, hd, rfl⟩ := tiOf_some hti
    exact ⟨d, hd, h⟩
  · exact absurd h.symm hne
theorem tagOf_bool {t : Nat} (h : tagOf P t = .bool) : P.underlying t = some .bool := by
  obtain ⟨d, hd, ht⟩ := tagOf_some h (by simp)
  cases d <;> simp [tagD] at ht
  exact hd
theorem tagOf_string {t : Nat} (h : tagOf P t = .string) : P.underlying t = some .string := by
  obtain ⟨d, hd, ht⟩ := tagOf_some h (by simp)
  cases d <;> simp [tagD] at ht
  exact hd
theorem tagOf_int {t : Nat} {k : IntKind} (h : tagOf P t = .int k) : P.underlying t = some (.int k) := by
  obtain ⟨d, hd, ht⟩ := tagOf_some h (by simp)
  cases d <;> simp [tagD] at ht
  subst ht
  exact hd
theorem tagOf_slice {t : Nat} {ti : TI} (h : tagOf P t = .slice) (hti : tiOf P t = some ti) : P.underlying t = some (.slice ti.elem) := by
  obtain ⟨i, d, hi, hd, rfl⟩ := tiOf_some hti
  simp only [tagOf, hti] at h
  cases d <;> simp [tagD] at h
  exact hd
theorem tagOf_struct {t : Nat} {ti : TI} (h : tagOf P t = .struct) (hti : tiOf P t = some ti) : ∃ fs, P.underlying t = some (.struct fs) ∧ ti.fields = fieldsD P (.struct fs) := by
  obtain ⟨i, d, hi, hd, rfl⟩ := tiOf_some hti
  simp only [tagOf, hti] at h
  cases d <;> simp [tagD] at h
  exact ⟨_, hd, rfl⟩
theorem tagOf_array {t n : Nat} {ti : TI} (h : tagOf P t = .array n) (hti : tiOf P t = some ti) : P.underlying t = some (.array n ti.elem) := by
  obtain ⟨i, d, hi, hd, rfl⟩ := tiOf_some hti
  simp only [tagOf, hti] at h
  cases d <;> simp [tagD] at h
  subst h
  exact hd
theorem evInt_ok {op : BinOp} {k : IntKind} {x y : Int} {a : AV} (ho : op ≠ .shl ∧ op ≠ .shr) (h : evInt op k x y = some a) (t : Nat) : ∃ v, (binOp op t (.int k x) (.int k y)).run P w = .ok v w ∧ RV w G a v := by
  obtain ⟨h1, h2⟩ := ho
  cases op <;> simp only [evInt] at h <;> try contradiction
  all_goals
    first
      | (obtain rfl := Option.some.inj h
         refine ⟨_, by simp only [binOp, ne_eq, not_true, if_false]; rfl, ?_⟩
         first | exact rvInt _ _ | exact rvBool _)
      | (split at h
         · simp at h
         · rename_i hy
           obtain rfl := Option.some.inj h
           refine ⟨_, by first | (simp [binOp, Op.intDiv, hy]; done) | (simp [binOp, Op.intDiv, hy]; rfl), rvInt _ _⟩)
theorem evShift_ok {op : BinOp} {k k' : IntKind} {x y : Int} {a : AV} (ho : op = .shl ∨ op = .shr) (h : evShift op k x y = some a) (t : Nat) : ∃ v, (binOp op t (.int k x) (.int k' y)).run P w = .ok v w ∧ RV w G a v := by
  unfold evShift at h
  split at h
  · simp at h
  · rename_i hy
    rcases ho with rfl | rfl
    · obtain rfl := Option.some.inj h
      exact ⟨_, by simp [binOp, Op.shift, hy], rvInt _ _⟩
    · obtain rfl := Option.some.inj h
      exact ⟨_, by simp [binOp, Op.shift, hy], rvInt _ _⟩
theorem evStr_ok {op : BinOp} {x y : ByteArray} {a : AV} (h : evStr op x y = some a) (t : Nat) : ∃ v, (binOp op t (.string x) (.string y)).run P w = .ok v w ∧ RV w G a v := by
  cases op <;> simp only [evStr] at h <;> try contradiction
  all_goals
    first
      | (obtain rfl := Option.some.inj h
         exact ⟨_, rfl, rvBool _⟩)
      | (split at h
         · simp at h
         · rename_i hy
           obtain rfl := Option.some.inj h
           refine ⟨_, by simp only [binOp, Op.stringOp]; rw [if_neg hy]; rfl, rvStr _⟩)
theorem evBin_ok {op : BinOp} {t : Nat} {x y a : AV} {X Y : Value} (hx : RV w G x X) (hy : RV w G y Y) (h : evBin P op t x y = some a) (p q : Operand) :
    ∃ v, ((do eqGuard op t p q X Y; binOp op t X Y : Sem Value)).run P w = .ok v w ∧ RV w G a v := by
  unfold evBin at h
  split at h
  · obtain rfl := hx.int_inv
    obtain rfl := hy.int_inv
    have hg : ∀ (k k' : IntKind) (a b : Int), (eqGuard op t p q (.int k a) (.int k' b)).run P w = .ok () w := by
      intro k k' a b; unfold eqGuard; split <;> rfl
    simp only [Sem.run_bind, hg, Result.andThen_ok]
    split at h
    · exact evShift_ok (.inl rfl) h t
    · exact evShift_ok (.inr rfl) h t
    · rename_i h1 h2
      split at h
      · rename_i hk; subst hk; exact evInt_ok ⟨h1, h2⟩ h t
      · simp at h
  · obtain rfl := hx.str_inv
    obtain rfl := hy.str_inv
    have hg : ∀ (a b : ByteArray), (eqGuard op t p q (.string a) (.string b)).run P w = .ok () w := by
      intro a b; unfold eqGuard; split <;> rfl
    simp only [Sem.run_bind, hg, Result.andThen_ok]
    exact evStr_ok h t
  · obtain rfl := hx.bool_inv
    obtain rfl := hy.bool_inv
    have hg : ∀ (a b : Bool), (eqGuard op t p q (.bool a) (.bool b)).run P w = .ok () w := by
      intro a b; unfold eqGuard; split <;> rfl
    simp only [Sem.run_bind, hg, Result.andThen_ok]
    split at h
    · rename_i ht
      have hu := tagOf_bool ht
      split at h
      · obtain rfl := Option.some.inj h
        exact ⟨_, run_eql_bool w t _ _ hu, rvBool _⟩
      · obtain rfl := Option.some.inj h
        exact ⟨_, run_neq_bool w t _ _ hu, rvBool _⟩
      · simp at h
    · simp at h
  · simp at h
end Go.Proofs.Ytggkeechdakccaa.Flat
/-
The operations that change nothing, second part.
-/
namespace Go.Proofs.Ytggkeechdakccaa.Flat
variable {P : Program} {w : World} {G : Gh}
theorem eqf_step {d i : Nat} {xs ys : Array Value} {f : Field} {fs : List Field} {a b : Value} {p q : Bool} (hn : f.name ≠ "_") (ho : f.offset = i) (hagg : (isAgg f.type).run P w = .ok false w)
    (hx : xs[i]? = some a) (hy : ys[i]? = some b) (hp : (Op.equalIn d f.type a b).run P w = .ok p w) (hq : (Op.eqFields d xs ys fs).run P w = .ok q w) :
    (Op.eqFields d xs ys (f :: fs)).run P w = .ok (p && q) w := by
  have hpx : (part f.type xs f.offset).run P w = .ok a w := by
    rw [ho]
    simp only [part, Sem.run_bind, hagg, Result.andThen_ok, if_false, hx, Bool.false_eq_true]
    rfl
  have hpy : (part f.type ys f.offset).run P w = .ok b w := by
    rw [ho]
    simp only [part, Sem.run_bind, hagg, Result.andThen_ok, if_false, hy, Bool.false_eq_true]
    rfl
  rw [Op.eqFields]
  simp only [if_pos hn, Sem.run_bind, hpx, hpy, hp, Result.andThen_ok]
  cases p
  · simp
  · simpa using hq
theorem getD_some {xs : Array Value} {i : Nat} (h : i < xs.size) : xs[i]? = some (xs.getD i undef) := by
  rw [Array.getD_eq_getD_getElem?, Array.getElem?_eq_getElem h]
  rfl
theorem eqK_ok (d : Nat) (xs ys : Array Value) : ∀ (fs : List Field) (i : Nat) (ks : List Nat) (cs ds : List AV) (b : Bool),
    eqsFrom P i fs = some ks → eqK ks cs ds = some b → cs.length + i = xs.size → ds.length + i = ys.size →
    (∀ j (h : j < cs.length), RV w G cs[j] (xs.getD (i + j) undef)) → (∀ j (h : j < ds.length), RV w G ds[j] (ys.getD (i + j) undef)) →
    (Op.eqFields (d + 1) xs ys fs).run P w = .ok b w := by
  intro fs
  induction fs with
  | nil =>
    intro i ks cs ds b h1 h2 _ _ _ _
    obtain rfl : [] = ks := by simpa [eqsFrom] using h1
    cases cs <;> cases ds <;> simp [eqK] at h2
    subst h2
    simp [Op.eqFields]
  | cons f fs ih =>
    intro i ks cs ds b h1 h2 h3 h4 h5 h6
    simp only [eqsFrom] at h1
    split at h1
    · rename_i hf
      obtain ⟨k, hk, h1⟩ := Option.bind_eq_some_iff.1 h1
      obtain ⟨u, hu, hku⟩ := Option.bind_eq_some_iff.1 hk
      obtain ⟨ks', hks, rfl⟩ := Option.map_eq_some_iff.1 h1
      have hagg : (isAgg f.type).run P w = .ok false w := by
        cases u <;> simp [kindD] at hku <;> simp [isAgg, run_und hu]
      have tl : ∀ (c e : AV) (cs' ds' : List AV) (q : Bool), cs = c :: cs' → ds = e :: ds' → eqK ks' cs' ds' = some q → (Op.eqFields (d + 1) xs ys fs).run P w = .ok q w := by
        intro c e cs' ds' q hc he hq
        subst hc
        subst he
        simp only [List.length_cons] at h3 h4
        exact ih (i + 1) ks' cs' ds' q hks hq (by omega) (by omega)
          (fun j hj => by have := h5 (j + 1) (by simp; omega); rw [Nat.add_assoc, Nat.add_comm 1 j]; simpa using this)
          (fun j hj => by have := h6 (j + 1) (by simp; omega); rw [Nat.add_assoc, Nat.add_comm 1 j]; simpa using this)
      unfold eqK at h2
      split at h2
      · simp_all
      · rename_i ks2 kx x r ky y s heq
        obtain ⟨rfl, rfl⟩ : k = 0 ∧ ks' = ks2 := by simpa using heq
        split at h2
        rotate_left
        · simp at h2
        rename_i hkk
        subst hkk
        obtain ⟨q, hq, rfl⟩ := Option.map_eq_some_iff.1 h2
        simp only [List.length_cons] at h3 h4
        have e1 := (h5 0 (by simp)).int_inv
        have e2 := (h6 0 (by simp)).int_inv
        obtain ⟨k', rfl⟩ : ∃ k', u = .int k' := by cases u <;> simp [kindD] at hku <;> exact ⟨_, rfl⟩
        exact eqf_step hf.1 hf.2 hagg ((getD_some (by omega)).trans (congrArg some e1)) ((getD_some (by omega)).trans (congrArg some e2)) (run_equalIn_int w d f.type _ _ x y hu) (tl _ _ _ _ _ rfl rfl hq)
      · rename_i ks2 x r y s heq
        obtain ⟨rfl, rfl⟩ : k = 1 ∧ ks' = ks2 := by simpa using heq
        obtain ⟨q, hq, rfl⟩ := Option.map_eq_some_iff.1 h2
        simp only [List.length_cons] at h3 h4
        have e1 := (h5 0 (by simp)).bool_inv
        have e2 := (h6 0 (by simp)).bool_inv
        obtain rfl : u = .bool := by cases u <;> simp [kindD] at hku <;> rfl
        exact eqf_step hf.1 hf.2 hagg ((getD_some (by omega)).trans (congrArg some e1)) ((getD_some (by omega)).trans (congrArg some e2)) (run_equalIn_bool' w d f.type x y hu) (tl _ _ _ _ _ rfl rfl hq)
      · rename_i ks2 x r y s heq
        obtain ⟨rfl, rfl⟩ : k = 2 ∧ ks' = ks2 := by simpa using heq
        obtain ⟨q, hq, rfl⟩ := Option.map_eq_some_iff.1 h2
        simp only [List.length_cons] at h3 h4
        have e1 := (h5 0 (by simp)).str_inv
        have e2 := (h6 0 (by simp)).str_inv
        obtain rfl : u = .string := by cases u <;> simp [kindD] at hku <;> rfl
        exact eqf_step hf.1 hf.2 hagg ((getD_some (by omega)).trans (congrArg some e1)) ((getD_some (by omega)).trans (congrArg some e2)) (run_equalIn_string w d f.type x y hu) (tl _ _ _ _ _ rfl rfl hq)
      · simp at h2
    · simp at h1
theorem evEq_ok {t : Nat} {cs ds : List AV} {xs ys : Array Value} {b : Bool} (h : evEq P t cs ds = some b) (hx : xs.size = cs.length) (hy : ys.size = ds.length)
    (h5 : ∀ j (h : j < cs.length), RV w G cs[j] (xs.getD j undef)) (h6 : ∀ j (h : j < ds.length), RV w G ds[j] (ys.getD j undef)) :
    P.eqGuardType P.depth t = false ∧ (Op.equalIn 10000 t (.agg xs) (.agg ys)).run P w = .ok b w := by
  unfold evEq at h
  obtain ⟨ti, hti, h⟩ := Option.bind_eq_some_iff.1 h
  obtain ⟨ks, hks, h2⟩ := Option.bind_eq_some_iff.1 h
  clear h
  obtain ⟨i, d, hi, hd, rfl⟩ := tiOf_some hti
  simp only at hks
  cases d <;> simp only [eqsOf] at hks <;> try contradiction
  rename_i fs
  split at hks
  · rename_i hh
    have hf : P.fieldsOf t = fs := by simp [Program.fieldsOf, hd]
    refine ⟨hh.2, ?_⟩
    rw [run_equalIn_struct (P := P) w 9999 t xs ys (by rw [hf]; exact hd) hh.1, hf]
    exact eqK_ok 9998 xs ys fs.toList 0 ks cs ds b hks h2 (by omega) (by omega) (fun j hj => by simpa using h5 j hj) (fun j hj => by simpa using h6 j hj)
  · simp at hks
theorem fields_get {fs : Array Field} {f : Nat} {off size : Nat} {agg : Bool} (h : (fieldsD P (.struct fs))[f]? = some (off, size, agg)) :
    ∃ fd : Field, fs[f]? = some fd ∧ fd.offset = off ∧ sizeD P fd.type = size ∧ ((P.underlying fd.type).map isAggD).getD false = agg := by
  simp only [fieldsD, List.getElem?_map, Option.map_eq_some_iff, Array.getElem?_toList, Prod.mk.injEq] at h
  obtain ⟨fd, h1, h2, h3, h4⟩ := h
  exact ⟨fd, h1, h2, h3, h4⟩
theorem sizeD_ne {t : Nat} (h : sizeD P t ≠ 0) : ∃ i d, P.info? t = some i ∧ P.underlying t = some d ∧ sizeD P t = i.size := by
  unfold sizeD at h ⊢
  split at h
  · rename_i i d hi hd
    exact ⟨i, d, hi, hd, rfl⟩
  · simp at h
theorem run_fieldPlace {fd : Field} {i : TypeInfo} (hi : P.info? fd.type = some i) (h : i.size ≠ 0) (a : Addr) : (fieldPlace a fd).run P w = .ok (a.add fd.offset) w := by
  simp [fieldPlace, sizeOf, run_info hi, h]
theorem add_add {ad : Addr} (h : ad.spot = none) (i j : Nat) : (ad.add i).add j = ad.add (i + j) := by
  rw [add_eq h, add_eq h, add_eq (by rfl)]
  simp [Nat.add_assoc]
theorem evFieldAddr_ok {t : Nat} {p a : AV} {pv : Value} {f : Nat} (hp : RV w G p pv) (h : evFieldAddr P t p f = some a) :
    ∃ v, (Instr.fieldAt t pv f).run P w = .ok v w ∧ RV w G a v := by
  unfold evFieldAddr at h
  split at h
  · rename_i hs
    obtain ⟨ti, hti, h⟩ := Option.bind_eq_some_iff.1 h
    obtain ⟨⟨off, size, agg⟩, hf, h⟩ := Option.bind_eq_some_iff.1 h
    simp only at h
    obtain ⟨fs, hu, hfs⟩ := tagOf_struct (of_decide_eq_true hs) hti
    rw [hfs] at hf
    obtain ⟨fd, hfd, rfl, hsize, _⟩ := fields_get hf
    split at h
    · simp at h
    · rename_i h0
      obtain ⟨i, d, hi, hd, hi0⟩ := sizeD_ne (by omega : sizeD P fd.type ≠ 0)
      rw [hi0] at hsize
      have hi0 : i.size ≠ 0 := by omega
      have hrun : ∀ ad : Addr, (Instr.fieldAt t (.pointer (some ad)) f).run P w = .ok (.pointer (some (ad.add fd.offset))) w := by
        intro ad
        simp [Instr.fieldAt, run_und hu, hfd, Instr.sureAddr, run_fieldPlace hi hi0]
      cases p with
      | ptr id o =>
        simp only at h
        obtain rfl := Option.some.inj h
        cases hp with
        | ro hr => cases hr
        | ptr _ _ b hμ => exact ⟨_, hrun _, by rw [add_eq rfl]; exact .ptr _ _ _ hμ⟩
      | eptr d id fz e sz xs i o =>
        cases d with
        | true => simp at h
        | false =>
        simp only at h
        obtain rfl := Option.some.inj h
        cases hp with
        | ro hr => cases hr
        | eptr _ _ _ _ _ _ _ ad n c hk hρ =>
          refine ⟨_, hrun _, ?_⟩
          have hsp : ad.spot = none := by
            obtain ⟨g, o, cur, Fs, rfl, _⟩ := hk.at hρ
            rfl
          rw [add_add hsp, Nat.add_assoc]
          exact .eptr _ _ _ _ _ _ _ _ _ _ hk hρ
      | cptr cs =>
        simp only at h
        obtain rfl := Option.some.inj h
        cases hp with
        | ro hr =>
          cases hr with
          | cptr _ _ ad cv hsp hS hr =>
            refine ⟨_, hrun _, .ro (.cptr _ _ _ (fun j => cv (fd.offset + j)) (by rw [add_eq hsp]) (fun j hj => ?_) (fun j hj => ?_))⟩
            · have hj' : fd.offset + j < cs.length := by simp at hj; omega
              obtain ⟨⟨fl, h1⟩, h2⟩ := hS _ hj'
              rw [add_add hsp]
              refine ⟨⟨fl, ?_⟩, h2⟩
              rw [add_eq hsp]
              simpa [Nat.add_assoc] using h1
            · rw [drop_get hj]
              exact hr _ (by simp at hj; omega)
      | _ => simp at h
  · simp at h
theorem takeVal_ok {agg : Bool} {n : Nat} {cs : List AV} {a : AV} {vs : Array Value} (k : Nat) (h : takeVal agg n (cs.drop k) = some a) (hl : vs.size = cs.length) (hr : ∀ j (h : j < cs.length), RV w G cs[j] (vs.getD j undef)) :
    RV w G a (if agg then .agg (vs.extract k (k + n)) else vs.getD k undef) ∧ (agg = false → k < vs.size) := by
  unfold takeVal at h
  split at h
  · rename_i ha
    split at h
    · rename_i hn
      obtain rfl := Option.some.inj h
      simp only [List.length_drop] at hn
      refine ⟨?_, fun e => by simp [e] at ha⟩
      rw [if_pos ha]
      refine .agg _ _ (by simp; omega) (fun j hj => ?_)
      have hj' : j < n := by simp at hj; omega
      have := hr (k + j) (by simp at hj; omega)
      simp only [List.getElem_take, List.getElem_drop]
      rw [Array.getD_eq_getD_getElem?] at this ⊢
      rw [Array.getElem?_extract]
      rw [if_pos (by omega)]
      exact this
    · simp at h
  · rename_i ha
    have ha' : agg = false := by simpa using ha
    subst ha'
    cases hd : cs.drop k with
    | nil => rw [hd] at h; simp at h
    | cons c r =>
      rw [hd] at h
      obtain rfl : c = a := by simpa using h
      have hk : k < cs.length := by
        apply Classical.byContradiction; intro hn
        rw [List.drop_eq_nil_of_le (by omega)] at hd; simp at hd
      have hc : cs[k] = c := by
        have := List.drop_eq_getElem_cons hk
        rw [hd] at this
        exact (List.cons.inj this).1.symm
      refine ⟨?_, fun _ => by omega⟩
      simp only [Bool.false_eq_true, if_false]
      rw [← hc]
      exact hr k hk
theorem run_part {t k n : Nat} {agg : Bool} {vs : Array Value} (h1 : sizeD P t = n) (h0 : n ≠ 0) (h2 : ((P.underlying t).map isAggD).getD false = agg) (hk : agg = false → k < vs.size) :
    (part t vs k).run P w = .ok (if agg then .agg (vs.extract k (k + n)) else vs.getD k undef) w := by
  obtain ⟨i, d, hi, hd, hs⟩ := sizeD_ne (by omega : sizeD P t ≠ 0)
  have ha : (isAgg t).run P w = .ok agg w := by
    rw [hd] at h2
    cases d <;> simp [isAggD] at h2 <;> subst h2 <;> simp [isAgg, run_und hd]
  cases agg
  · simp only [part, Sem.run_bind, ha, Result.andThen_ok, Bool.false_eq_true, if_false, getD_some (hk rfl)]
    rfl
  · rw [h1] at hs
    simp [part, ha, sizeOf, run_info hi, hs]
theorem evField_ok {t : Nat} {x a : AV} {xv : Value} {f : Nat} (hx : RV w G x xv) (h : evField P t x f = some a) :
    ∃ v, (Instr.field t xv f).run P w = .ok v w ∧ RV w G a v := by
  unfold evField at h
  split at h
  · rename_i hs
    obtain ⟨ti, hti, h⟩ := Option.bind_eq_some_iff.1 h
    obtain ⟨⟨off, size, agg⟩, hf, h⟩ := Option.bind_eq_some_iff.1 h
    obtain ⟨fs, hu, hfs⟩ := tagOf_struct (of_decide_eq_true hs) hti
    rw [hfs] at hf
    obtain ⟨fd, hfd, rfl, hsize, hagg⟩ := fields_get hf
    simp only at h
    cases x with
    | agg cs =>
      simp only at h
      obtain ⟨vs, rfl, hl, hr⟩ := hx.agg_inv
      split at h
      · simp at h
      · rename_i h0
        obtain ⟨hr1, hk⟩ := takeVal_ok (fd.offset) h hl hr
        refine ⟨_, ?_, hr1⟩
        simp [Instr.field, run_und hu, hfd, asAgg, run_part hsize h0 hagg hk]
    | _ => simp at h
  · simp at h
end Go.Proofs.Ytggkeechdakccaa.Flat
/-
The operations that change nothing, third part: places in rows, cuts, structs that are built.
-/
namespace Go.Proofs.Ytggkeechdakccaa.Flat
variable {P : Program} {w : World} {G : Gh}
theorem getElem?_of_toNat {α : Type} {xs : List α} {n : Int} {x : α} (h : xs[n.toNat]? = some x) (h0 : 0 ≤ n) : n < (xs.length : Int) := by
  have := (List.getElem?_eq_some_iff.1 h).1
  omega
theorem elem_of_slice {t e : Nat} (h : P.underlying t = some (.slice e)) : P.elem t = e := by simp [Program.elem, h]
theorem evIndexAddr_ok {t : Nat} {x i a : AV} {xv iv : Value} (hx : RV w G x xv) (hi : RV w G i iv) (h : evIndexAddr P t x i = some a) :
    ∃ v, (Instr.indexAt t xv iv).run P w = .ok v w ∧ RV w G a v := by
  unfold evIndexAddr at h
  split at h
  · rename_i hs
    obtain ⟨ti, hti, h⟩ := Option.bind_eq_some_iff.1 h
    obtain ⟨te, hte, h⟩ := Option.bind_eq_some_iff.1 h
    have hu := tagOf_slice (of_decide_eq_true hs) hti
    have he := elem_of_slice hu
    have hrun : ∀ (ad : Addr) (len cap : Nat) (k : IntKind) (n : Int), 0 ≤ n → n < len → (Instr.indexAt t (.slice (some ad) len cap) (.int k n)).run P w = .ok (.pointer (some (ad.add (n.toNat * te.size)))) w := by
      intro ad len cap k n h0 h1
      rw [run_indexAt_slice w t ad len cap k n (by rw [he]; exact hu), if_pos ⟨h0, h1⟩, he, run_size hte]
      rfl
    cases x with
    | sl fl xs =>
      cases i with
      | int k n =>
        simp only at h
        split at h
        · rename_i h0
          obtain ⟨x, hx1, h⟩ := Option.bind_eq_some_iff.1 h
          split at h
          · rename_i hsz
            obtain rfl := Option.some.inj h
            obtain rfl := hi.int_inv
            have hlt := getElem?_of_toNat hx1 h0
            have hxm : x ∈ xs := List.mem_of_getElem? hx1
            cases hx with
            | ro hr =>
              cases hr with
              | slNil => simp at hx1
              | sl _ _ _ ad c sz cv hne hc hsp hsz' hcell hS hr =>
                obtain rfl : sz = te.size := by rw [← hsz' x hxm, hsz]
                refine ⟨_, hrun _ _ _ _ _ h0 hlt, .ro (.cptr _ _ _ (fun j => cv (n.toNat * te.size + j)) (by rw [add_eq hsp]) (fun j hj => ?_) (fun j hj => ?_))⟩
                · have hjl : n.toNat * te.size + j < xs.length * te.size := by
                    have : (n.toNat + 1) * te.size ≤ xs.length * te.size := Nat.mul_le_mul_right _ (by omega)
                    rw [Nat.add_mul, Nat.one_mul] at this
                    omega
                  have hh := hS _ hjl
                  rw [add_add hsp]
                  refine ⟨⟨fl, ?_⟩, hh.2⟩
                  rw [add_eq hsp]
                  simpa [Nat.add_assoc] using hh.1
                · have hfl : (flat xs).length = xs.length * te.size := flat_length hsz'
                  have hjl : n.toNat * te.size + j < xs.length * te.size := by
                    have : (n.toNat + 1) * te.size ≤ xs.length * te.size := Nat.mul_le_mul_right _ (by omega)
                    rw [Nat.add_mul, Nat.one_mul] at this
                    omega
                  have h12 := flat_at hsz' n.toNat j x hx1 (by omega)
                  have h13 := hr (n.toNat * te.size + j) (by rw [hfl]; exact hjl)
                  have e : (flat xs)[n.toNat * te.size + j]'(by rw [hfl]; exact hjl) = x.cells[j] := by
                    rw [List.getElem?_eq_getElem (by rw [hfl]; exact hjl), List.getElem?_eq_getElem hj] at h12
                    simpa using h12
                  rw [← e]
                  exact h13.mono sub_le (fun _ _ _ _ => rfl)
          · simp at h
        · simp at h
      | _ => simp at h
    | own id fz e sz xs =>
      cases i with
      | int k n =>
        simp only at h
        split at h
        · rename_i h0
          obtain ⟨rfl, h0, hlt⟩ := h0
          obtain rfl := Option.some.inj h
          obtain rfl := hi.int_inv
          cases hx with
          | ro hr => cases hr
          | own _ _ _ _ _ hk =>
            rcases hk.2.2.2.cases with ⟨h5, h6⟩ | ⟨g, off, cap, cur, Fs, h5, hat⟩
            · rw [h5] at hlt; simp at hlt; omega
            · rw [h5]
              exact ⟨_, hrun _ _ _ _ _ h0 hlt, .eptr _ _ _ _ _ _ 0 _ _ _ hk h5⟩
        · simp at h
      | _ => simp at h
    | _ => simp at h
  · split at h
    · rename_i m hm
      obtain ⟨ti, hti, h⟩ := Option.bind_eq_some_iff.1 h
      obtain ⟨te, hte, h⟩ := Option.bind_eq_some_iff.1 h
      have ha : tagOf P t = .array m := by
        unfold isArrayT at hm
        split at hm
        · rename_i n' hn'; rw [hn']; simp at hm; rw [hm]
        · simp at hm
      have hu := tagOf_array ha hti
      have he : P.elem t = ti.elem := by simp [Program.elem, hu]
      have hn : P.arrayLen t = m := by simp [Program.arrayLen, hu]
      have hrun : ∀ (ad : Addr) (k : IntKind) (n : Int), 0 ≤ n → n < m → (Instr.indexAt t (.pointer (some ad)) (.int k n)).run P w = .ok (.pointer (some (ad.add (n.toNat * te.size)))) w := by
        intro ad k n h0 h1
        rw [run_indexAt_array (P := P) (w := w) t ad k n (by rw [he, hn]; exact hu), hn, if_pos ⟨h0, h1⟩, he, run_size hte]
        rfl
      split at h
      · rename_i id off k n _ _
        split at h
        · rename_i h0
          obtain rfl := Option.some.inj h
          obtain rfl := hi.int_inv
          cases hx with
          | ro hr => cases hr
          | ptr _ _ b hμ => exact ⟨_, hrun _ _ _ h0.1 h0.2, by rw [add_eq rfl]; exact .ptr _ _ _ hμ⟩
        · simp at h
      · rename_i cs k n _ _
        split at h
        · rename_i h0
          obtain rfl := Option.some.inj h
          obtain rfl := hi.int_inv
          cases hx with
          | ro hr =>
            cases hr with
            | cptr _ _ ad cv hsp hS hr =>
              refine ⟨_, hrun _ _ _ h0.1 h0.2, .ro (.cptr _ _ _ (fun j => cv (n.toNat * te.size + j)) (by rw [add_eq hsp]) (fun j hj => ?_) (fun j hj => ?_))⟩
              · have hj' : n.toNat * te.size + j < cs.length := by simp at hj; omega
                have h1 := hS _ hj'
                rw [add_add hsp]
                refine ⟨?_, h1.2⟩
                rw [add_eq hsp]
                simpa [Nat.add_assoc] using h1.1
              · rw [drop_get hj]
                exact hr _ _
        · simp at h
      · simp at h
    · simp at h
theorem evIndex_ok {t : Nat} {x i a : AV} {xv iv : Value} (hx : RV w G x xv) (hi : RV w G i iv) (h : evIndex P t x i = some a) :
    ∃ v, (Instr.index t xv iv).run P w = .ok v w ∧ RV w G a v := by
  unfold evIndex at h
  split at h
  · rename_i s k n
    split at h
    · rename_i hs
      split at h
      · rename_i h0
        obtain ⟨b, hb, rfl⟩ := Option.map_eq_some_iff.1 h
        obtain rfl := hx.str_inv
        obtain rfl := hi.int_inv
        have hu := tagOf_string (of_decide_eq_true hs)
        exact ⟨_, by simp [Instr.index, asIntOf, run_und hu, h0, hb], rvInt _ _⟩
      · simp at h
    · simp at h
  · rename_i cs k n
    obtain ⟨m, hm, h⟩ := Option.bind_eq_some_iff.1 h
    obtain ⟨ti, hti, h⟩ := Option.bind_eq_some_iff.1 h
    obtain ⟨te, hte, h⟩ := Option.bind_eq_some_iff.1 h
    split at h
    · rename_i h0
      obtain ⟨h1, h2, h3, h4⟩ := h0
      obtain ⟨vs, rfl, hl, hr⟩ := hx.agg_inv
      obtain rfl := hi.int_inv
      have ha : tagOf P t = .array m := by
        unfold isArrayT at hm
        split at hm
        · rename_i n' hn'; rw [hn']; simp at hm; rw [hm]
        · simp at hm
      have hu := tagOf_array ha hti
      have hlt := (List.getElem?_eq_some_iff.1 h).1
      have ha1 := run_agg hte w
      rw [h1] at ha1
      refine ⟨vs.getD n.toNat undef, ?_, ?_⟩
      rotate_left
      · have := hr _ hlt
        rw [(List.getElem?_eq_some_iff.1 h).2] at this
        exact this
      · have hg := getD_some (xs := vs) (i := n.toNat) (by omega)
        simp only [Instr.index, asIntOf, Sem.run_bind, Sem.run_pure, Result.andThen_ok, run_und hu, h3, h4, and_self, if_true, run_size hte, h2, Nat.mul_one, part, ha1, Bool.false_eq_true, if_false, hg]
    · simp at h
  · simp at h
theorem bytesOf_flat : ∀ {xs : List AV} {ns : List Int}, bytesOf xs = some ns → xs = ns.map (AV.int .u8)
  | [], ns, h => by simp only [bytesOf, Option.some.injEq] at h; subst h; rfl
  | x :: r, ns, h => by
    cases x with
    | int k n =>
      cases k with
      | u8 =>
        simp only [bytesOf, Option.map_eq_some_iff] at h
        obtain ⟨ms, h1, rfl⟩ := h
        rw [bytesOf_flat h1]; rfl
      | _ => simp [bytesOf] at h
    | _ => simp [bytesOf] at h
theorem flat_bytes (ns : List Int) : flat (ns.map (AV.int .u8)) = ns.map (AV.int .u8) := by
  induction ns with
  | nil => rfl
  | cons n r ih => simp only [List.map_cons]; rw [show flat (AV.int .u8 n :: r.map (AV.int .u8)) = AV.int .u8 n :: flat (r.map (AV.int .u8)) from rfl, ih]
theorem tagD_slice {P : Program} {t : Nat} {d : TypeDesc} (h : tagD d = .slice) : ∃ e, d = .slice e := by
  cases d <;> simp [tagD] at h
  exact ⟨_, rfl⟩
theorem evText_ok {P : Program} {w : World} {G : Gh} {s d : Nat} {x a : AV} {xv : Value} {ti : TI} (hts : tiOf P s = some ti) (hx : RV w G x xv) (h : evText P ti d x = some a) : ∃ v, (convert s d xv).run P w = .ok v w ∧ RV w G a v := by
  obtain ⟨i, ds, hi, hds, rfl⟩ := tiOf_some hts
  cases x with
  | own id fz e sz xs =>
    simp only [evText] at h
    split at h
    · rename_i hc
      obtain ⟨rfl, h1, h2, h3⟩ := hc
      obtain ⟨ns, hns, rfl⟩ := Option.map_eq_some_iff.1 h
      obtain ⟨e', rfl⟩ := tagD_slice (P := P) (t := s) h1
      have hu := tagOf_int h2
      have hd := tagOf_string h3
      have hxs := bytesOf_flat hns
      subst hxs
      refine ⟨_, ?_, rvStr _⟩
      cases hx with
      | ro hr => cases hr
      | own _ _ _ _ _ hk =>
      rcases hk.2.2.2.cases with ⟨h4, h5⟩ | ⟨g, off, cap, cur, Fs, h4, h5⟩
      · rw [h5, run_convert_bytes_string w s d e' none 0 0 hds hu hd]
        have : ns = [] := by cases ns with | nil => rfl | cons => simp at h4
        subst this
        rfl
      · rw [h4, run_convert_bytes_string w s d e' _ _ _ hds hu hd]
        have hl := h5.flatLen
        refine run_bytesToString w _ _ _ ns ?_
        have h6 := run_loadCells (P := P) w ⟨g, off, none⟩ (ns.map (AV.int .u8)).length (fun j => cur.getD (off + j) undef) (fun j hj => by
          rw [add_eq rfl]
          exact h5.cellAt (by omega))
        rw [h6]
        congr 1
        refine Array.ext (by simp) fun j h7 h8 => ?_
        have hj : j < ns.length := by simpa using h8
        have hr := h5.rel j (by rw [flat_bytes]; simpa using hj)
        simp only [flat_bytes, List.getElem_map] at hr
        have hv : cur.getD (off + j) undef = .int .u8 ns[j] := by
          generalize cur.getD (off + j) undef = v at hr ⊢
          cases hr with
          | ro _ h => cases h; rfl
        simpa using hv
    · simp at h
  | _ => simp [evText] at h
theorem evConvert_ok {s d : Nat} {x a : AV} {xv : Value} (hx : RV w G x xv) (h : evConvert P s d x = some a) : ∃ v, (convert s d xv).run P w = .ok v w ∧ RV w G a v := by
  unfold evConvert at h
  obtain ⟨ts, hts, h2⟩ := Option.bind_eq_some_iff.1 h
  clear h
  obtain ⟨i, ds, hi, hds, rfl⟩ := tiOf_some hts
  cases x with
  | int k n =>
    cases hk : tagOf P d with
    | int k' =>
      simp only [hk] at h2
      obtain rfl := Option.some.inj h2
      obtain rfl := hx.int_inv
      have hu := tagOf_int hk
      refine ⟨_, ?_, rvInt _ _⟩
      simp only [convert, Sem.run_bind, run_und hds, run_und hu, Result.andThen_ok]
      cases ds <;> rfl
    | _ => simp [hk, evText] at h2
  | str st =>
    cases hk : tagOf P d with
    | string =>
      simp only [hk] at h2
      obtain rfl := Option.some.inj h2
      obtain rfl := hx.str_inv
      have hu := tagOf_string hk
      refine ⟨_, ?_, rvStr _⟩
      simp only [convert, Sem.run_bind, run_und hds, run_und hu, Result.andThen_ok]
      cases ds <;> rfl
    | _ => simp [hk, evText] at h2
  | own id fz e sz xs =>
    have h3 : evText P { tag := tagD ds, agg := isAggD ds, size := i.size, bytes := i.bytes, zero := i.zero, elem := elemD ds, fields := fieldsD P ds, eqs := eqsOf P s ds } d (.own id fz e sz xs) = some a := by
      cases hk : tagOf P d <;> simpa only [hk] using h2
    exact evText_ok hts hx h3
  | _ => cases hk : tagOf P d <;> simp [hk, evText] at h2
theorem RV.sl_inv {fl : Bool} {xs : List AV} {v : Value} (h : RV w G (.sl fl xs) v) : ∃ A c, v = .slice A xs.length c ∧ xs.length ≤ c := by
  cases h with
  | ro h => cases h with
    | slNil _ _ A c h => exact ⟨A, c, rfl, Nat.zero_le _⟩
    | sl _ _ _ ad c sz cv hne hc => exact ⟨_, c, rfl, hc⟩
theorem RV.own_inv {id : Nat} {fz : Bool} {e sz : Nat} {xs : List AV} {v : Value} (h : RV w G (.own id fz e sz xs) v) : v = G.ρ id ∧ RowOK w G id fz e sz xs := by
  cases h with
  | ro h => cases h
  | own _ _ _ _ _ h => exact ⟨rfl, h⟩
theorem RowOK.header {id : Nat} {fz : Bool} {e sz : Nat} {xs : List AV} (h : RowOK w G id fz e sz xs) : ∃ A c, G.ρ id = .slice A xs.length c ∧ xs.length ≤ c := by
  rcases h.2.2.2.cases with ⟨h5, h6⟩ | ⟨g, off, cap, cur, Fs, h5, hat⟩
  · exact ⟨none, 0, by rw [h5, h6]; rfl, by rw [h5]; exact Nat.zero_le _⟩
  · exact ⟨_, cap, h5, hat.le⟩
theorem RV.sub_inv {id : Nat} {fz : Bool} {e sz : Nat} {xs : List AV} {i k : Nat} {v : Value} {e' sz' : Nat} {ys : List AV} (h : RV w G (.eptr true id fz e sz xs i k) v) (hin : AV.inner xs i k = some (e', sz', ys)) :
    RowOK w G id fz e sz xs ∧ ∃ (F : Nat → Prop) (g : Nat), (∀ b, F b → G.own id b ∧ b ≠ g) ∧ (G.ρ id).ownBlock = some g ∧ TR w G.S F (.tr e' sz' ys) v := by
  cases h with
  | ro h => cases h
  | sub _ _ _ _ _ _ _ ad n c _ x hk hρ hx ho hv =>
    obtain ⟨g, o, cur, Fs, rfl, rfl, hat⟩ := hk.at hρ
    obtain ⟨h1, h2, h3⟩ := hat.elem hx ho
    have h4 := hat.cellAt h1
    rw [add_eq rfl, h4] at hv
    rw [Option.some.inj hv] at h3
    have e1 : x.cells[k] = .tr e' sz' ys := by
      simp only [AV.inner, hx, Option.bind_some, List.getElem?_eq_getElem ho] at hin
      split at hin
      · rename_i heq
        simp only [Option.some.injEq, Prod.mk.injEq] at hin heq
        obtain ⟨rfl, rfl, rfl⟩ := hin
        exact heq
      · simp at hin
    rw [e1] at h3
    exact ⟨hk, _, g, fun b hb => hat.sub _ b hb, by rw [hρ]; rfl, h3⟩
theorem TR.header {F : Nat → Prop} {S : Cells} {e sz : Nat} {xs : List AV} {v : Value} (h : TR w S F (.tr e sz xs) v) : ∃ A c, v = .slice A xs.length c ∧ xs.length ≤ c := by
  rcases h.cases with ⟨h5, h6⟩ | ⟨g, off, cap, cur, Fs, h5, hat⟩
  · exact ⟨none, 0, by rw [h5, h6]; rfl, by rw [h5]; exact Nat.zero_le _⟩
  · exact ⟨_, cap, h5, hat.le⟩
theorem RV.nils_inv {v : Value} (h : RV w G .nils v) : v = .slice none 0 0 := by
  cases h with
  | ro h => cases h
  | nils => rfl
theorem run_len_sl {t e : Nat} {A : Option Addr} {n c : Nat} (h : P.underlying t = some (.slice e)) (ts : Array TypeId) (ht : ts[0]? = some t) (ty : Nat) :
    (Builtin.len_ ts ty #[.slice A n c]).run P w = .ok (.int .i64 n) w := by
  simp [Builtin.len_, ht, run_und h, goInt]
theorem evLen_ok {t : Nat} {x a : AV} {xv : Value} (hx : RV w G x xv) (h : evLen P t x = some a) (ts : Array TypeId) (ht : ts[0]? = some t) (ty : Nat) : ∃ v, (Builtin.len_ ts ty #[xv]).run P w = .ok v w ∧ RV w G a v := by
  have key : ∀ {A : Option Addr} {n c : Nat}, isSliceT P t = true → (Builtin.len_ ts ty #[.slice A n c]).run P w = .ok (.int .i64 n) w := by
    intro A n c hs
    have hne : tagOf P t = .slice := of_decide_eq_true hs
    obtain ⟨d, hd, hg⟩ := tagOf_some hne (by simp)
    cases d <;> simp [tagD] at hg
    exact run_len_sl hd ts ht ty
  cases x with
  | str s =>
    simp only [evLen] at h
    split at h
    · rename_i hs
      obtain rfl := Option.some.inj h
      obtain rfl := hx.str_inv
      have hu := tagOf_string (of_decide_eq_true hs)
      exact ⟨_, by simp [Builtin.len_, ht, run_und hu, goInt], rvInt _ _⟩
    · simp at h
  | nils =>
    simp only [evLen] at h
    split at h
    · rename_i hs
      obtain rfl := Option.some.inj h
      obtain rfl := hx.nils_inv
      exact ⟨_, key hs, rvInt _ _⟩
    · simp at h
  | sl fl xs =>
    simp only [evLen] at h
    split at h
    · rename_i hs
      obtain rfl := Option.some.inj h
      obtain ⟨A, c, rfl, _⟩ := hx.sl_inv
      exact ⟨_, key hs, rvInt _ _⟩
    · simp at h
  | own id fz e sz xs =>
    simp only [evLen] at h
    split at h
    · rename_i hs
      obtain rfl := Option.some.inj h
      obtain ⟨rfl, hk⟩ := hx.own_inv
      obtain ⟨A, c, hA, _⟩ := hk.header
      rw [hA]
      exact ⟨_, key hs, rvInt _ _⟩
    · simp at h
  | eptr d id fz e sz xs i k =>
    cases d with
    | false => simp [evLen] at h
    | true =>
      simp only [evLen] at h
      obtain ⟨⟨e', sz', ys⟩, hin, h⟩ := Option.bind_eq_some_iff.1 h
      simp only at h
      split at h
      · rename_i hs
        obtain rfl := Option.some.inj h
        obtain ⟨hk, F, g, _, _, ht⟩ := hx.sub_inv hin
        obtain ⟨A, c, hA, _⟩ := ht.header
        rw [hA]
        exact ⟨_, key hs, rvInt _ _⟩
      · simp at h
  | _ => simp [evLen] at h
theorem evUn_ok {op : UnOp} {x a : AV} {xv : Value} (hx : RV w G x xv) (h : evUn op x = some a) : ∃ v, (Op.unary op xv).run P w = .ok v w ∧ RV w G a v := by
  unfold evUn at h
  split at h
  · obtain rfl := Option.some.inj h
    obtain rfl := hx.int_inv
    exact ⟨_, rfl, rvInt _ _⟩
  · obtain rfl := Option.some.inj h
    obtain rfl := hx.bool_inv
    exact ⟨_, rfl, rvBool _⟩
  · simp at h
theorem evCutStr_ok {t : Nat} {s : ByteArray} {lo hi : Option AV} {a : AV} {lv hv : Option Value} (ht : isStringT P t = true) (hl : match lo, lv with | none, none => True | some x, some v => RV w G x v | _, _ => False)
    (hh : match hi, hv with | none, none => True | some x, some v => RV w G x v | _, _ => False) (h : evCutStr s lo hi = some a) :
    ∃ v, (Instr.sliceAt t (.string s) lv hv none).run P w = .ok v w ∧ RV w G a v := by
  have hu := tagOf_string (of_decide_eq_true ht)
  have hsl : (Instr.sliceAt t (.string s) lv hv none).run P w = (Instr.slice t (.string s) lv hv none).run P w := by simp [Instr.sliceAt, run_und hu]
  rw [hsl]
  unfold evCutStr at h
  split at h
  · obtain rfl := Option.some.inj h
    cases lv <;> simp at hl
    cases hv <;> simp at hh
    exact ⟨_, run_slice_string_all w t s hu, rvStr _⟩
  · split at h
    · rename_i k n hn
      obtain rfl := Option.some.inj h
      cases hv <;> simp at hh
      cases lv with
      | none => simp at hl
      | some v =>
        obtain rfl := RV.int_inv hl
        exact ⟨_, run_slice_string_l w t s hu k n hn.1 hn.2, rvStr _⟩
    · simp at h
  · split at h
    · rename_i k n hn
      obtain rfl := Option.some.inj h
      cases lv <;> simp at hl
      cases hv with
      | none => simp at hh
      | some v =>
        obtain rfl := RV.int_inv hh
        exact ⟨_, run_slice_string_h w t s hu k n hn.1 hn.2, rvStr _⟩
    · simp at h
  · split at h
    · rename_i k n k' m hn
      obtain rfl := Option.some.inj h
      cases lv with
      | none => simp at hl
      | some v =>
        cases hv with
        | none => simp at hh
        | some v' =>
          obtain rfl := RV.int_inv hl
          obtain rfl := RV.int_inv hh
          exact ⟨_, run_slice_string w t s k k' n m hu hn.1 hn.2.1 hn.2.2, rvStr _⟩
    · simp at h
  · simp at h
theorem flat_drop {xs : List AV} {sz : Nat} (h : ∀ x ∈ xs, x.cells.length = sz) (l : Nat) : flat (xs.drop l) = (flat xs).drop (l * sz) := by
  induction xs generalizing l with
  | nil => simp [flat]
  | cons x xs ih =>
    cases l with
    | zero => simp
    | succ l =>
      have hx := h x (by simp)
      have e : (l + 1) * sz = sz + l * sz := by rw [Nat.add_mul]; omega
      have e2 : x.cells.drop (sz + l * sz) = [] := List.drop_eq_nil_of_le (by omega)
      rw [List.drop_succ_cons, ih (fun y hy => h y (by simp [hy])), flat_cons, List.drop_append, hx, e, e2, List.nil_append, Nat.add_sub_cancel_left]
theorem flat_take {xs : List AV} {sz : Nat} (h : ∀ x ∈ xs, x.cells.length = sz) (l : Nat) : flat (xs.take l) = (flat xs).take (l * sz) := by
  induction xs generalizing l with
  | nil => simp [flat]
  | cons x xs ih =>
    cases l with
    | zero => simp [flat]
    | succ l =>
      have hx := h x (by simp)
      have e : (l + 1) * sz = sz + l * sz := by rw [Nat.add_mul]; omega
      have e2 : x.cells.take (sz + l * sz) = x.cells := List.take_of_length_le (by omega)
      rw [List.take_succ_cons, flat_cons, flat_cons, ih (fun y hy => h y (by simp [hy])), List.take_append, hx, e, e2, Nat.add_sub_cancel_left]
theorem RO.cut {S : Cells} {fl : Bool} {xs : List AV} {A : Option Addr} {n c l h size : Nat} (hx : RO w S (.sl fl xs) (.slice A n c)) (hlh : l ≤ h) (hh : h ≤ xs.length) (hsz0 : l = 0 ∨ ∀ x ∈ xs, x.cells.length = size) :
    RO w S (.sl fl ((xs.take h).drop l)) (sliced A l h c size) := by
  have hcap : xs.length ≤ c := by
    cases hx with
    | slNil => exact Nat.zero_le _
    | sl _ _ _ ad _ sz cv hne hc => exact hc
  by_cases hemp : (xs.take h).drop l = []
  · rw [hemp]
    have hlen : h - l = 0 := by
      have := congrArg List.length hemp
      simp at this
      omega
    unfold sliced
    rw [hlen]
    refine .slNil _ _ _ _ (fun hA => ?_)
    split at hA
    · subst hA
      cases hx with
      | slNil _ _ _ _ h0 => have := h0 rfl; omega
    · rename_i hcl
      cases A with
      | some ad => simp at hA
      | none =>
        cases hx with
        | slNil _ _ _ _ h0 => have := h0 rfl; omega
  · have hlt : l < h := by
      apply Classical.byContradiction; intro hn
      exact hemp (by rw [List.drop_eq_nil_of_le (by simp; omega)])
    cases hx with
    | slNil => simp at hemp
    | sl _ _ _ ad _ sz cv hne hc hsp hsz hcell hS hr =>
      have hne2 : c ≠ l := by omega
      have hs : l * size = l * sz := by
        rcases hsz0 with rfl | hs
        · simp
        · cases xs with
          | nil => simp at hemp
          | cons x r => rw [← hs x (by simp), hsz x (by simp)]
      unfold sliced
      rw [if_neg hne2, hs]
      have hlen : ((xs.take h).drop l).length = h - l := by simp; omega
      rw [← hlen, Option.map_some]
      have hmul : h * sz ≤ xs.length * sz := Nat.mul_le_mul_right _ hh
      have hlm : l * sz + (h - l) * sz = h * sz := by rw [← Nat.add_mul]; congr 1; omega
      have hflat : flat ((xs.take h).drop l) = ((flat xs).take (h * sz)).drop (l * sz) := by
        rw [flat_drop (fun x hx => hsz x (List.mem_of_mem_take hx)), flat_take hsz]
      have hmem : ∀ x ∈ (xs.take h).drop l, x ∈ xs := fun x hx => List.mem_of_mem_take (List.mem_of_mem_drop hx)
      refine .sl _ fl _ (ad.add (l * sz)) (c - l) sz (fun j => cv (l * sz + j)) hemp (by omega) (by rw [add_eq hsp]) (fun x hx => hsz x (hmem x hx)) (fun y hy => ?_) (fun j hj => ?_) (fun j hj => ?_)
      · rw [hflat] at hy
        exact hcell y (List.mem_of_mem_take (List.mem_of_mem_drop hy))
      · rw [hlen] at hj
        have hh := hS (l * sz + j) (by omega)
        rw [add_add hsp]
        refine ⟨?_, hh.2⟩
        rw [add_eq hsp]
        simpa [Nat.add_assoc] using hh.1
      · have hfl : (flat xs).length = xs.length * sz := flat_length hsz
        have hj' := hj
        rw [hflat] at hj'
        simp only [List.length_drop, List.length_take] at hj'
        have e : (flat ((xs.take h).drop l))[j] = (flat xs)[l * sz + j]'(by omega) := by
          simp [hflat]
        rw [e]
        exact hr _ _
theorem evCutRow_ok {t : Nat} {fl : Bool} {xs : List AV} {ti te : TI} {lo hi : Option AV} {a : AV} {xv : Value} {lv hv : Option Value} (ht : isSliceT P t = true) (hti : tiOf P t = some ti) (hte : tiOf P ti.elem = some te) (hx : RV w G (.sl fl xs) xv)
    (hl : match lo, lv with | none, none => True | some x, some v => RV w G x v | _, _ => False)
    (hh : match hi, hv with | none, none => True | some x, some v => RV w G x v | _, _ => False) (h : evCutRow te.size fl xs lo hi = some a) :
    ∃ v, (Instr.sliceAt t xv lv hv none).run P w = .ok v w ∧ RV w G a v := by
  have hu := tagOf_slice (of_decide_eq_true ht) hti
  have he := elem_of_slice hu
  have hsl : (Instr.sliceAt t xv lv hv none).run P w = (Instr.slice t xv lv hv none).run P w := by simp [Instr.sliceAt, run_und hu]
  rw [hsl]
  obtain ⟨A, c, rfl, hcap⟩ := hx.sl_inv
  have hro : RO w G.S (.sl fl xs) (.slice A xs.length c) := by
    cases hx with
    | ro h => exact h
  have hu' : P.underlying t = some (.slice (P.elem t)) := by rw [he]; exact hu
  have hsize := run_size (w := w) hte
  unfold evCutRow at h
  split at h
  · split at h
    · rename_i k n hn
      obtain ⟨h0, h1, h2⟩ := hn
      obtain rfl := Option.some.inj h
      cases hv <;> simp at hh
      cases lv with
      | none => simp at hl
      | some v =>
        obtain rfl := RV.int_inv hl
        refine ⟨_, by rw [run_slice_l w t A xs.length c hu' k n h0 h1, he, hsize]; rfl, ?_⟩
        have := hro.cut (l := n.toNat) (h := xs.length) (size := te.size) (by omega) (Nat.le_refl _) (.inr (by simpa using h2))
        rw [List.take_length] at this
        exact .ro this
    · simp at h
  · split at h
    · rename_i k n hn
      obtain ⟨h0, h1⟩ := hn
      obtain rfl := Option.some.inj h
      cases lv <;> simp at hl
      cases hv with
      | none => simp at hh
      | some v =>
        obtain rfl := RV.int_inv hh
        refine ⟨_, by rw [run_slice_h w t A xs.length c hu' k n h0 (by omega), he, hsize]; rfl, ?_⟩
        have := hro.cut (l := 0) (h := n.toNat) (size := te.size) (by omega) (by omega) (.inl rfl)
        rw [List.drop_zero] at this
        exact .ro this
    · simp at h
  · split at h
    · rename_i k n k' m hn
      obtain ⟨h0, h1, h2, h3⟩ := hn
      obtain rfl := Option.some.inj h
      cases lv with
      | none => simp at hl
      | some v =>
        cases hv with
        | none => simp at hh
        | some v' =>
          obtain rfl := RV.int_inv hl
          obtain rfl := RV.int_inv hh
          refine ⟨_, by rw [run_slice_lh w t A xs.length c hu' k k' n m h0 h1 (by omega), he, hsize]; rfl, ?_⟩
          exact .ro (hro.cut (l := n.toNat) (h := m.toNat) (size := te.size) (by omega) (by omega) (.inr (by simpa using h3)))
    · simp at h
  · simp at h
end Go.Proofs.Ytggkeechdakccaa.Flat
/-
Structs that are built; constants; and all operations that change nothing, in one.
-/
namespace Go.Proofs.Ytggkeechdakccaa.Flat
variable {P : Program} {w : World} {G : Gh}
theorem put_size (off : Nat) : ∀ (vs : List (Value × Nat)) (cs : Array Value), (vs.foldl (fun cs (p : Value × Nat) => cs.setIfInBounds (off + p.2) p.1) cs).size = cs.size
  | [], _ => rfl
  | p :: vs, cs => by rw [List.foldl_cons, put_size off vs]; simp
theorem put_get (off : Nat) : ∀ (vs : List Value) (m : Nat) (cs : Array Value) (k : Nat), off + m + vs.length ≤ cs.size →
    ((vs.zipIdx m).foldl (fun cs (p : Value × Nat) => cs.setIfInBounds (off + p.2) p.1) cs).getD k undef = if off + m ≤ k ∧ k < off + m + vs.length then vs.getD (k - (off + m)) undef else cs.getD k undef
  | [], m, cs, k, _ => by simp; intro h1 h2; omega
  | v :: vs, m, cs, k, h => by
    simp only [List.length_cons] at h
    rw [List.zipIdx_cons, List.foldl_cons, put_get off vs (m + 1) _ k (by simp; omega)]
    by_cases h1 : k = off + m
    · subst h1
      rw [if_neg (by omega), if_pos (by simp)]
      simp [Array.getD_eq_getD_getElem?, Array.getElem?_setIfInBounds]
      have : off + m < cs.size := by omega
      simp [this]
    · by_cases h2 : off + m + 1 ≤ k ∧ k < off + m + 1 + vs.length
      · rw [if_pos (by omega), if_pos (by simp; omega)]
        have e : k - (off + m) = (k - (off + (m + 1))) + 1 := by omega
        rw [e, List.getD_cons_succ]
      · rw [if_neg (by omega), if_neg (by simp; omega)]
        simp only [Array.getD_eq_getD_getElem?, Array.getElem?_setIfInBounds]
        rw [if_neg (by omega)]
def RVs (w : World) (G : Gh) (cs : List AV) (vs : Array Value) : Prop := vs.size = cs.length ∧ ∀ j (h : j < cs.length), RV w G cs[j] (vs.getD j undef)
theorem RV.cells {x : AV} {v : Value} (h : RV w G x v) (hu : x ≠ .undef) : RVs w G x.cells v.cells := by
  have key : (∀ cs, x ≠ .agg cs) → (∀ vs, v ≠ .agg vs) → RVs w G x.cells v.cells := by
    intro h1 h2
    have e1 : x.cells = [x] := by cases x <;> first | rfl | exact absurd rfl (h1 _)
    have e2 : v.cells = #[v] := by cases v <;> first | rfl | exact absurd rfl (h2 _)
    rw [e1, e2]
    refine ⟨rfl, fun j hj => ?_⟩
    obtain rfl : j = 0 := by simpa using hj
    exact h
  cases x with
  | agg cs =>
    obtain ⟨vs, rfl, hl, hr⟩ := h.agg_inv
    exact ⟨hl, hr⟩
  | undef => exact absurd rfl hu
  | tup cs =>
    obtain ⟨vs, rfl, hl, hr⟩ := h.tup_inv
    exact key (fun _ e => by cases e) (fun _ e => by cases e)
  | _ =>
    have h1 := h.one rfl
    refine key (fun _ e => by cases e) (fun vs e => ?_)
    subst e
    simp [Value.oneCell'] at h1
theorem ofCell_ok {v : Value} {a : AV} (h : ofCell v = some a) : RV w G a v ∧ a.isCell = true := by
  unfold ofCell at h
  split at h
  · obtain rfl := Option.some.inj h; exact ⟨rvInt _ _, rfl⟩
  · obtain rfl := Option.some.inj h; exact ⟨rvBool _, rfl⟩
  · obtain rfl := Option.some.inj h; exact ⟨rvStr _, rfl⟩
  · obtain rfl := Option.some.inj h; exact ⟨.nils, rfl⟩
  · simp at h
theorem ofCells_ok : ∀ {vs : List Value} {cs : List AV}, ofCells vs = some cs → cs.length = vs.length ∧ (∀ y ∈ cs, y.isCell = true) ∧ ∀ j (h : j < cs.length), RV w G cs[j] (vs.getD j undef)
  | [], cs, h => by
    obtain rfl : [] = cs := by simpa [ofCells] using h
    exact ⟨rfl, by simp, fun j hj => by simp at hj⟩
  | v :: vs, cs, h => by
    simp only [ofCells] at h
    obtain ⟨a, ha, h⟩ := Option.bind_eq_some_iff.1 h
    obtain ⟨r, hr, rfl⟩ := Option.map_eq_some_iff.1 h
    obtain ⟨h1, h2, h3⟩ := ofCells_ok hr
    obtain ⟨h4, h5⟩ := ofCell_ok (w := w) (G := G) ha
    refine ⟨by simp [h1], fun y hy => ?_, fun j hj => ?_⟩
    · rcases List.mem_cons.1 hy with rfl | hy
      · exact h5
      · exact h2 y hy
    · cases j with
      | zero => exact h4
      | succ j => simpa using h3 j (by simpa using hj)
theorem ofCells_RVs {z : Value} {cs : List AV} (h : ofCells z.cells.toList = some cs) : RVs w G cs z.cells := by
  obtain ⟨h1, _, h3⟩ := ofCells_ok (w := w) (G := G) h
  refine ⟨by simp [h1], fun j hj => ?_⟩
  have := h3 j hj
  rw [List.getD_eq_getElem?_getD, Array.getElem?_toList] at this
  rw [Array.getD_eq_getD_getElem?]
  exact this
theorem ofConst_ok (v : Value) : RV w G ((ofConst v).getD .undef) v := by
  cases h : ofConst v with
  | none => exact rvUndef v
  | some a =>
    unfold ofConst at h
    split at h
    · rename_i cs
      obtain ⟨l, hl, rfl⟩ := Option.map_eq_some_iff.1 h
      obtain ⟨h1, h2⟩ := ofCells_RVs (w := w) (G := G) (z := .agg cs) hl
      exact .agg _ _ h1 h2
    · exact (ofCell_ok h).1
theorem RVs.put {cs : List AV} {vs : Array Value} {x : AV} {v : Value} {off : Nat} (h : RVs w G cs vs) (hx : RVs w G x.cells v.cells) (hb : off + x.cells.length ≤ cs.length) :
    RVs w G (cs.take off ++ x.cells ++ cs.drop (off + x.cells.length)) (v.cells.zipIdx.foldl (fun cs (p : Value × Nat) => cs.setIfInBounds (off + p.2) p.1) vs) := by
  rw [← Array.foldl_toList, Array.toList_zipIdx]
  have hl : off + 0 + v.cells.toList.length ≤ vs.size := by simp [hx.1, h.1]; omega
  refine ⟨?_, fun j hj => ?_⟩
  · rw [put_size, h.1]; simp; omega
  · rw [put_get off _ 0 vs j hl]
    simp only [Nat.add_zero, Array.length_toList, hx.1]
    by_cases h1 : j < off
    · rw [if_neg (by omega), List.getElem_append_left (by simp; omega), List.getElem_append_left (by simp; omega), List.getElem_take]
      exact h.2 _ _
    · by_cases h2 : j < off + x.cells.length
      · rw [if_pos (by omega), List.getElem_append_left (by simp; omega), List.getElem_append_right (by simp; omega)]
        have := hx.2 (j - off) (by omega)
        rw [Array.getD_eq_getD_getElem?] at this
        rw [List.getD_eq_getElem?_getD, Array.getElem?_toList]
        have e : j - (List.take off cs).length = j - off := by simp; omega
        simp only [e]
        exact this
      · rw [if_neg (by omega), List.getElem_append_right (by simp; omega)]
        have e : j = off + x.cells.length + (j - (List.take off cs ++ x.cells).length) := by simp; omega
        have := h.2 j (by simp at hj; omega)
        simp only [List.getElem_drop]
        have e2 : cs[off + x.cells.length + (j - (List.take off cs ++ x.cells).length)]'(by simp at hj ⊢; omega) = cs[j]'(by simp at hj; omega) := by congr 1; exact e.symm
        rw [e2]
        exact this
theorem fill_ok {place place' : Nat → Option (Nat × Nat)} (hp : ∀ i q, place i = some q → q.2 ≠ 0 → place' i = some q) : ∀ {parts : List (Nat × AV)} {parts' : List (Nat × Value)} {cs cs' : List AV} {vs : Array Value},
    RVs w G cs vs → parts.length = parts'.length → (∀ (k i : Nat) (x : AV) (i' : Nat) (v : Value), parts[k]? = some (i, x) → parts'[k]? = some (i', v) → i = i' ∧ RV w G x v) → (∀ p ∈ parts, p.2 ≠ .undef) → fillCells place cs parts = some cs' →
    ∃ vs', Instr.fill place' vs parts' = some vs' ∧ RVs w G cs' vs'
  | [], parts', cs, cs', vs, h, hl, _, _, hf => by
    obtain rfl : parts' = [] := by cases parts' <;> simp_all
    obtain rfl : cs = cs' := by simpa [fillCells] using hf
    exact ⟨vs, rfl, h⟩
  | (i, x) :: parts, parts', cs, cs', vs, h, hl, hr, hu, hf => by
    cases parts' with
    | nil => simp at hl
    | cons p parts' =>
      obtain ⟨i', v⟩ := p
      obtain ⟨rfl, hxv⟩ := hr 0 i x i' v rfl rfl
      simp only [fillCells] at hf
      obtain ⟨⟨off, size⟩, hpl, hf⟩ := Option.bind_eq_some_iff.1 hf
      simp only at hf
      split at hf
      · rename_i hc
        obtain ⟨hc1, hc2, hc3⟩ := hc
        have hcells := hxv.cells (hu (i, x) (by simp))
        have hput := h.put (off := off) hcells (by omega)
        rw [hc1] at hput
        obtain ⟨vs', h1, h2⟩ := fill_ok hp hput (by simpa using hl) (fun k i x i' v h1 h2 => hr (k + 1) i x i' v (by simpa using h1) (by simpa using h2)) (fun q hq => hu q (List.mem_cons_of_mem _ hq)) hf
        refine ⟨vs', ?_, h2⟩
        rw [Instr.fill.eq_2, hp i _ hpl hc2]
        simp only
        rw [if_neg (by simp [hcells.1, hc1, h.1]; omega)]
        exact h1
      · simp at hf
theorem mapM_places {fs : List Field} (h : ∀ f ∈ fs, (P.info? f.type).isSome) : fs.mapM (fun f => (P.info? f.type).map fun i => (f.offset, i.size)) = some (fs.map fun f => (f.offset, ((P.info? f.type).map (·.size)).getD 0)) := by
  induction fs with
  | nil => rfl
  | cons f fs ih =>
    obtain ⟨i, hi⟩ := Option.isSome_iff_exists.1 (h f (by simp))
    rw [List.mapM_cons, ih (fun g hg => h g (by simp [hg]))]
    simp [hi]
theorem evBuild_ok {t : Nat} {parts : List (Nat × AV)} {parts' : Array (Nat × Value)} {a : AV} (hl : parts.length = parts'.size) (hr : ∀ (k i : Nat) (x : AV) (i' : Nat) (v : Value), parts[k]? = some (i, x) → parts'[k]? = some (i', v) → i = i' ∧ RV w G x v)
    (h : evBuild P t parts = some a) : ∃ v, (Instr.build t parts').run P w = .ok v w ∧ RV w G a v := by
  unfold evBuild at h
  obtain ⟨ti, hti, h⟩ := Option.bind_eq_some_iff.1 h
  split at h
  · rename_i hund
    obtain ⟨z, hz, h⟩ := Option.bind_eq_some_iff.1 h
    obtain ⟨zs, hzs, h⟩ := Option.bind_eq_some_iff.1 h
    obtain ⟨it, d, hi, hd, rfl⟩ := tiOf_some hti
    have hR := ofCells_RVs (w := w) (G := G) hzs
    have hu : ∀ p ∈ parts, p.2 ≠ .undef := by
      intro p hp e
      have := List.all_eq_true.1 hund p hp
      rw [e] at this
      simp [AV.isUndef] at this
    have hl' : parts.length = parts'.toList.length := by simpa using hl
    have hr' : ∀ (k i : Nat) (x : AV) (i' : Nat) (v : Value), parts[k]? = some (i, x) → parts'.toList[k]? = some (i', v) → i = i' ∧ RV w G x v := fun k i x i' v h1 h2 => hr k i x i' v h1 (by simpa using h2)
    split at h
    · rename_i hs
      split at h
      · rename_i hall
        obtain ⟨cs, hcs, rfl⟩ := Option.map_eq_some_iff.1 h
        obtain ⟨fs, hu1, hfs⟩ := tagOf_struct (of_decide_eq_true hs) hti
        obtain rfl : d = .struct fs := by rw [hd] at hu1; simpa using hu1
        simp only at hfs hcs hz hall
        have hknown : ∀ f ∈ fs.toList, (P.info? f.type).isSome ∧ ((P.info? f.type).map (·.size)).getD 0 = sizeD P f.type := by
          intro f hf
          have := List.all_eq_true.1 hall (f.offset, sizeD P f.type, ((P.underlying f.type).map isAggD).getD false) (List.mem_map.2 ⟨f, hf, rfl⟩)
          obtain ⟨i, d, h1, h2, h3⟩ := sizeD_ne (of_decide_eq_true this)
          rw [h3]
          simp [h1]
        have hpl := mapM_places (P := P) (fun f hf => (hknown f hf).1)
        obtain ⟨vs', h1, h2⟩ := fill_ok (place' := fun x => ((fs.toList.map fun f => (f.offset, ((P.info? f.type).map (·.size)).getD 0)).toArray[x]?)) (fun i q hq _ => by
          simp only [fieldsD, List.getElem?_map, Option.map_eq_some_iff] at hq
          obtain ⟨f, ⟨f', hf', rfl⟩, rfl⟩ := hq
          simp only [List.getElem?_toArray, List.getElem?_map, hf', Option.map_some]
          rw [(hknown f' (List.mem_of_getElem? hf')).2]) hR hl' hr' hu hcs
        refine ⟨_, run_build (P := P) w t parts' vs' ?_, .agg _ _ h2.1 h2.2⟩
        simp only [Program.built, hi, hd, hz, hpl]
        exact h1
      · simp at h
    · rename_i hs
      split at h
      · rename_i n hn
        obtain ⟨te, hte, h⟩ := Option.bind_eq_some_iff.1 h
        obtain ⟨cs, hcs, rfl⟩ := Option.map_eq_some_iff.1 h
        have ha : tagOf P t = .array n := by
          unfold isArrayT at hn
          split at hn
          · rename_i n' hn'; rw [hn']; simp at hn; rw [hn]
          · simp at hn
        have hu1 := tagOf_array ha hti
        simp only at hu1
        obtain ⟨ie, de, hie, hde, rfl⟩ := tiOf_some hte
        obtain ⟨vs', h1, h2⟩ := fill_ok (place' := fun i => some (i * ie.size, ie.size)) (fun i q hq _ => hq) hR hl' hr' hu hcs
        refine ⟨_, run_build (P := P) w t parts' vs' ?_, .agg _ _ h2.1 h2.2⟩
        simp only at hz
        simp only [Program.built, hi, hu1, hz, hie]
        exact h1
      · simp at h
  · simp at h
end Go.Proofs.Ytggkeechdakccaa.Flat
/-
All operations that change nothing, in one: what evFree tells is what the machine does.
-/
namespace Go.Proofs.Ytggkeechdakccaa.Flat
variable {w : World} {G : Gh}
def isCallV : Op → Bool
  | .call { callee := .value _, .. } => true
  | _ => false
theorem optAV_rel {val : Operand → AV} {ρ : Operand → Value} (hv : ∀ x, RV w G (val x) (ρ x)) (lo : Option Operand) :
    match optAV val lo, lo.map ρ with | none, none => True | some x, some v => RV w G x v | _, _ => False := by
  cases lo with
  | none => trivial
  | some x => exact hv x
theorem evPure_ok {E : Env} {Φ : Phi} {bx : Nat → Option (List AV)} {nid : Nat} {val : Operand → AV} {ρ : Operand → Value} {o : Oper} {v : AV} {ids : List Nat}
    (hs : Sees bx val ρ w G) (h : evFree E Φ bx nid val o.op = some (v, ids)) (hc : isCallV o.op = false) :
    ids = [] ∧ ∃ cv, (execOp ρ o).run E.P w = .ok (.value cv) w ∧ RV w G v cv := by
  have map1 : ∀ {q : Option AV}, q.map (fun x => (x, ([] : List Nat))) = some (v, ids) → q = some v ∧ ids = [] := by
    intro q hq
    obtain ⟨a, ha, hb⟩ := Option.map_eq_some_iff.1 hq
    simp only [Prod.mk.injEq] at hb
    exact ⟨by rw [ha, hb.1], hb.2.symm⟩
  have fin : ∀ {s : Sem Value}, execOp ρ o = (do let x ← s; pure (Next.value x)) → ids = [] → (∃ cv, s.run E.P w = .ok cv w ∧ RV w G v cv) → ids = [] ∧ ∃ cv, (execOp ρ o).run E.P w = .ok (.value cv) w ∧ RV w G v cv := by
    intro s he hi hh
    obtain ⟨cv, h1, h2⟩ := hh
    refine ⟨hi, cv, ?_, h2⟩
    rw [he, Sem.run_bind, h1, Result.andThen_ok]
    rfl
  obtain ⟨dst, op, ty, pos, after, guard⟩ := o
  simp only at h hc
  cases op with
  | move x =>
    simp only [evFree, Option.some.injEq, Prod.mk.injEq] at h
    obtain ⟨rfl, rfl⟩ := h
    exact ⟨rfl, _, rfl, hs.val x⟩
  | assign x =>
    simp only [evFree, Option.some.injEq, Prod.mk.injEq] at h
    obtain ⟨rfl, rfl⟩ := h
    exact ⟨rfl, _, rfl, hs.val x⟩
  | pick c a b =>
    simp only [evFree] at h
    have hcv := hs.val c
    cases hq : val c with
    | bool t =>
      rw [hq] at h hcv
      simp only [Option.some.injEq, Prod.mk.injEq] at h
      obtain ⟨rfl, rfl⟩ := h
      have e := hcv.bool_inv
      refine ⟨rfl, if t then ρ a else ρ b, ?_, ?_⟩
      · simp [execOp, e, asBool]
      · cases t
        · exact hs.val b
        · exact hs.val a
    | _ => simp [hq] at h
  | load t p =>
    simp only [evFree] at h
    obtain ⟨hm, hi'⟩ := map1 h
    clear h
    subst hi'
    have h := hm
    exact fin rfl rfl (evLoad_ok hs.box (hs.val p) h)
  | binOp op t x y t' =>
    simp only [evFree] at h
    have hx := hs.val x
    have hy := hs.val y
    split at h
    · rename_i a b ha hb
      rw [ha] at hx
      rw [hb] at hy
      obtain ⟨r, hr, h⟩ := Option.bind_eq_some_iff.1 h
      obtain ⟨xs, hxs, hl, hxr⟩ := hx.agg_inv
      obtain ⟨ys, hys, hl', hyr⟩ := hy.agg_inv
      obtain ⟨hg, he⟩ := evEq_ok hr hl hl' hxr hyr
      have hgd : ∀ op, (eqGuard op t x y (ρ x) (ρ y)).run E.P w = .ok () w := by
        intro op; rw [hxs, hys]; exact run_eqGuard_agg w op t x y xs ys hg
      split at h
      · simp only [Option.some.injEq, Prod.mk.injEq] at h
        obtain ⟨rfl, rfl⟩ := h
        refine fin rfl rfl ⟨.bool r, ?_, rvBool _⟩
        simp only [Sem.run_bind, hgd, Result.andThen_ok]
        rw [hxs, hys, run_eql_struct, he]
        rfl
      · simp only [Option.some.injEq, Prod.mk.injEq] at h
        obtain ⟨rfl, rfl⟩ := h
        refine fin rfl rfl ⟨.bool (!r), ?_, rvBool _⟩
        simp only [Sem.run_bind, hgd, Result.andThen_ok]
        rw [hxs, hys, run_neq_struct, he]
        rfl
      · simp at h
    · obtain ⟨hm, hi'⟩ := map1 h
      clear h
      subst hi'
      exact fin rfl rfl (evBin_ok hx hy hm x y)
  | unOp op t x =>
    simp only [evFree] at h
    obtain ⟨hm, hi'⟩ := map1 h
    clear h
    subst hi'
    have h := hm
    exact fin rfl rfl (evUn_ok (hs.val x) h)
  | convert s d x =>
    simp only [evFree] at h
    obtain ⟨hm, hi'⟩ := map1 h
    clear h
    subst hi'
    have h := hm
    exact fin rfl rfl (evConvert_ok (hs.val x) h)
  | fieldAddr t p f =>
    simp only [evFree] at h
    obtain ⟨hm, hi'⟩ := map1 h
    clear h
    subst hi'
    have h := hm
    exact fin rfl rfl (evFieldAddr_ok (hs.val p) h)
  | field t x f =>
    simp only [evFree] at h
    obtain ⟨hm, hi'⟩ := map1 h
    clear h
    subst hi'
    have h := hm
    exact fin rfl rfl (evField_ok (hs.val x) h)
  | indexAddr t x i =>
    simp only [evFree] at h
    obtain ⟨hm, hi'⟩ := map1 h
    clear h
    subst hi'
    have h := hm
    exact fin rfl rfl (evIndexAddr_ok (hs.val x) (hs.val i) h)
  | index t x i =>
    simp only [evFree] at h
    obtain ⟨hm, hi'⟩ := map1 h
    clear h
    subst hi'
    have h := hm
    exact fin rfl rfl (evIndex_ok (hs.val x) (hs.val i) h)
  | extract x i =>
    simp only [evFree] at h
    have hx := hs.val x
    cases hq : val x with
    | tup vs =>
      rw [hq] at h hx
      simp only at h
      obtain ⟨hm, hi'⟩ := map1 h
      clear h
      subst hi'
      have h := hm
      obtain ⟨xs, hxs, hl, hxr⟩ := hx.tup_inv
      have hlt := (List.getElem?_eq_some_iff.1 h).1
      have := hxr i hlt
      rw [(List.getElem?_eq_some_iff.1 h).2] at this
      refine fin rfl rfl ⟨_, ?_, this⟩
      rw [hxs]
      have hg := getD_some (xs := xs) (i := i) (by omega)
      simp only [Instr.extract, hg]
      rfl
    | _ => simp [hq] at h
  | build t ps =>
    simp only [evFree] at h
    obtain ⟨hm, hi'⟩ := map1 h
    clear h
    subst hi'
    have h := hm
    refine fin (s := Instr.build t (ps.map fun p => (p.1, ρ p.2))) rfl rfl (evBuild_ok (by simp) ?_ h)
    intro k i x i' v' h1 h2
    simp only [List.getElem?_map, Option.map_eq_some_iff, Prod.mk.injEq, Array.getElem?_toList] at h1
    simp only [Array.getElem?_map, Option.map_eq_some_iff, Prod.mk.injEq] at h2
    obtain ⟨p, hp, rfl, rfl⟩ := h1
    obtain ⟨p', hp', rfl, rfl⟩ := h2
    rw [hp] at hp'
    obtain rfl := Option.some.inj hp'
    exact ⟨rfl, hs.val _⟩
  | nilCheck x =>
    simp only [evFree] at h
    have hx := hs.val x
    have key : ∀ ad : Addr, ρ x = .pointer (some ad) → (execOp ρ { dst := dst, op := .nilCheck x, type := ty, pos := pos, after := after, guard := guard }).run E.P w = .ok (.value (ρ x)) w := by
      intro ad hp
      simp only [execOp, hp]
      rfl
    cases hq : val x with
    | ptr id off =>
      rw [hq] at h hx
      simp only [Option.some.injEq, Prod.mk.injEq] at h
      obtain ⟨rfl, rfl⟩ := h
      refine ⟨rfl, _, ?_, hx⟩
      obtain ⟨ad, hp⟩ : ∃ ad, ρ x = .pointer (some ad) := by
        generalize ρ x = v at hx
        cases hx with
        | ro hr => cases hr
        | ptr => exact ⟨_, rfl⟩
      exact key ad hp
    | cptr cs =>
      rw [hq] at h hx
      simp only [Option.some.injEq, Prod.mk.injEq] at h
      obtain ⟨rfl, rfl⟩ := h
      refine ⟨rfl, _, ?_, hx⟩
      obtain ⟨ad, hp⟩ : ∃ ad, ρ x = .pointer (some ad) := by
        generalize ρ x = v at hx
        cases hx with
        | ro hr => cases hr; exact ⟨_, rfl⟩
      exact key ad hp
    | eptr d id fz e sz xs i off =>
      rw [hq] at h hx
      cases d with
      | true => simp at h
      | false =>
      simp only [Option.some.injEq, Prod.mk.injEq] at h
      obtain ⟨rfl, rfl⟩ := h
      refine ⟨rfl, _, ?_, hx⟩
      obtain ⟨ad, hp⟩ : ∃ ad, ρ x = .pointer (some ad) := by
        generalize ρ x = v at hx
        cases hx with
        | ro hr => cases hr
        | eptr => exact ⟨_, rfl⟩
      exact key ad hp
    | _ => simp [hq] at h
  | slice t x lo hi mx =>
    cases mx with
    | some m => simp [evFree] at h
    | none =>
      simp only [evFree] at h
      have hx := hs.val x
      have hlo := optAV_rel hs.val lo
      have hhi := optAV_rel hs.val hi
      cases hq : val x with
      | str s =>
        rw [hq] at h hx
        simp only at h
        split at h
        · rename_i ht
          obtain ⟨hm, hi'⟩ := map1 h
          clear h
          subst hi'
          have h := hm
          refine fin rfl rfl ?_
          have e := hx.str_inv
          rw [e]
          exact evCutStr_ok ht hlo hhi h
        · simp at h
      | sl fl xs =>
        rw [hq] at h hx
        simp only at h
        split at h
        · rename_i ht
          obtain ⟨ti, hti, h⟩ := Option.bind_eq_some_iff.1 h
          obtain ⟨te, hte, h⟩ := Option.bind_eq_some_iff.1 h
          obtain ⟨hm, hi'⟩ := map1 h
          clear h
          subst hi'
          have h := hm
          exact fin rfl rfl (evCutRow_ok ht hti hte hx hlo hhi h)
        · simp at h
      | _ => simp [hq] at h
  | makeFunc f first cs =>
    cases f with
    | func f =>
      simp only [evFree] at h
      split at h
      · rename_i hf
        simp only [Option.some.injEq, Prod.mk.injEq] at h
        obtain ⟨rfl, rfl⟩ := h
        obtain rfl : first = #[] := by simpa using hf
        refine fin (s := Instr.makeFunc (.func f) (Array.map ρ #[]) (cs.map ρ)) rfl rfl ⟨.func (.func f) #[] (cs.map ρ), by simp [Instr.makeFunc], .clo _ _ _ (by simp) (fun j hj => ?_)⟩
        have hj' : j < cs.size := by simpa using hj
        have e : (cs.map ρ).getD j undef = ρ cs[j] := by simp [Array.getD_eq_getD_getElem?, hj']
        rw [e]
        simp only [List.getElem_map, Array.getElem_toList]
        exact hs.val _
      · simp at h
    | _ => simp [evFree] at h
  | call c =>
    obtain ⟨callee, args, argTypes⟩ := c
    cases callee with
    | value f => simp [isCallV] at hc
    | invoke x s => simp [evFree] at h
    | builtin b =>
      cases b with
      | len =>
        simp only [evFree] at h
        split at h
        · rename_i x t ha ht
          obtain ⟨hm, hi'⟩ := map1 h
          clear h
          subst hi'
          have h := hm
          obtain ⟨cv, h1, h2⟩ := evLen_ok (hs.val x) h argTypes ht ty
          refine ⟨rfl, cv, ?_, h2⟩
          obtain rfl : args = #[x] := by cases args; simp_all
          have hb : ∀ d p (af : Array Edge) g, execOp ρ { dst := d, op := .call { callee := .builtin .len, args := #[x], argTypes := argTypes }, type := ty, pos := p, after := af, guard := g } =
            (do let v ← Builtin.len_ argTypes ty (#[x].map ρ); pure (Next.value v)) := fun _ _ _ _ => rfl
          rw [hb, Sem.run_bind]
          simp only [List.map_toArray, List.map_cons, List.map_nil]
          simp only [h1, Result.andThen_ok]
          rfl
        · simp at h
      | min =>
        simp only [evFree] at h
        split at h
        · rename_i k a k' b ha
          split at h
          · rename_i hk
            simp only [Option.some.injEq, Prod.mk.injEq] at h
            obtain ⟨rfl, rfl⟩ := h
            obtain ⟨l⟩ := args
            rcases l with _ | ⟨x, _ | ⟨y, _ | ⟨z, r⟩⟩⟩ <;> simp only [List.map_cons, List.map_nil, List.cons.injEq, and_true, reduceCtorEq, and_false] at ha
            have e1 := hs.val x
            have e2 := hs.val y
            rw [ha.1] at e1
            rw [ha.2] at e2
            refine ⟨rfl, _, ?_, rvInt _ _⟩
            have hb : ∀ d p (af : Array Edge) g, execOp ρ { dst := d, op := .call { callee := .builtin .min, args := #[x, y], argTypes := argTypes }, type := ty, pos := p, after := af, guard := g } =
              (do let v ← Builtin.min_ argTypes ty (#[x, y].map ρ); pure (Next.value v)) := fun _ _ _ _ => rfl
            rw [hb]
            simp only [List.map_toArray, List.map_cons, List.map_nil]
            rw [e1.int_inv, e2.int_inv, Sem.run_bind, run_min_int2, Result.andThen_ok]
            rfl
          · simp at h
        · simp at h
      | max =>
        simp only [evFree] at h
        split at h
        · rename_i k a k' b ha
          split at h
          · rename_i hk
            simp only [Option.some.injEq, Prod.mk.injEq] at h
            obtain ⟨rfl, rfl⟩ := h
            obtain ⟨l⟩ := args
            rcases l with _ | ⟨x, _ | ⟨y, _ | ⟨z, r⟩⟩⟩ <;> simp only [List.map_cons, List.map_nil, List.cons.injEq, and_true, reduceCtorEq, and_false] at ha
            have e1 := hs.val x
            have e2 := hs.val y
            rw [ha.1] at e1
            rw [ha.2] at e2
            refine ⟨rfl, _, ?_, rvInt _ _⟩
            have hb : ∀ d p (af : Array Edge) g, execOp ρ { dst := d, op := .call { callee := .builtin .max, args := #[x, y], argTypes := argTypes }, type := ty, pos := p, after := af, guard := g } =
              (do let v ← Builtin.max_ argTypes ty (#[x, y].map ρ); pure (Next.value v)) := fun _ _ _ _ => rfl
            rw [hb]
            simp only [List.map_toArray, List.map_cons, List.map_nil]
            rw [e1.int_inv, e2.int_inv, Sem.run_bind, run_max_int2, Result.andThen_ok]
            rfl
          · simp at h
        · simp at h
      | _ => simp [evFree] at h
  | _ => simp [evFree] at h
end Go.Proofs.Ytggkeechdakccaa.Flat
