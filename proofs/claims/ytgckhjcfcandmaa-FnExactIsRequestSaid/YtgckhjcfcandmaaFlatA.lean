/-
The evaluator: Go functions run on abstract values (rows are lists, structs are lists of cells). Definitions alone.
-/
import Derived.Tactics
import Derived.LoopN
import Derived.Orders
import Derived.Laws.AppendOwn
import Derived.Laws.OwnMore
set_option linter.unusedVariables false
set_option linter.unusedSimpArgs false
namespace Go.Proofs.Ytgckhjcfcandmaa.Flat

/-- What a slot or a cell holds. -/
inductive AV where
  | undef
  | int (k : IntKind) (n : Int)
  | bool (b : Bool)
  | str (s : ByteArray)
  | nils
  | sl (fl : Bool) (xs : List AV)
  | own (id : Nat) (fz : Bool) (e sz : Nat) (xs : List AV)
  | agg (cs : List AV)
  | tup (vs : List AV)
  | ptr (id off : Nat)
  | eptr (id : Nat) (fz : Bool) (e sz : Nat) (xs : List AV) (i off : Nat)
  | cptr (cs : List AV)
  | clo (f : Nat) (caps : List AV)
deriving Inhabited

namespace AV
/-- A value's cells. -/
def cells : AV → List AV
  | .agg cs => cs
  | v => [v]
def isUndef : AV → Bool
  | .undef => true
  | _ => false
def isCell : AV → Bool
  | .agg _ => false
  | .tup _ => false
  | .undef => false
  | _ => true
mutual
/-- Every node that names a row or a variable is replaced. -/
def mapO (f : Nat → Bool → Nat → Nat → List AV → AV) (g : Nat → Nat → AV) (h : Nat → Bool → Nat → Nat → List AV → Nat → Nat → AV) (z : Unit → AV) : AV → AV
  | .own id fz e sz xs => f id fz e sz xs
  | .ptr id off => g id off
  | .eptr id fz e sz xs i off => h id fz e sz xs i off
  | .agg cs => .agg (mapOs f g h z cs)
  | .tup cs => .tup (mapOs f g h z cs)
  | .clo n cs => .clo n (mapOs f g h z cs)
  | .undef => .undef
  | .int k n => .int k n
  | .bool b => .bool b
  | .str s => .str s
  | .nils => z ()
  | .sl fl xs => .sl fl xs
  | .cptr cs => .cptr cs
def mapOs (f : Nat → Bool → Nat → Nat → List AV → AV) (g : Nat → Nat → AV) (h : Nat → Bool → Nat → Nat → List AV → Nat → Nat → AV) (z : Unit → AV) : List AV → List AV
  | [] => []
  | x :: xs => mapO f g h z x :: mapOs f g h z xs
end
mutual
/-- Is there a node that p holds of? Rows' and variables' insides are not looked at. -/
def any (p : AV → Bool) : AV → Bool
  | .agg cs => p (.agg cs) || anys p cs
  | .tup cs => p (.tup cs) || anys p cs
  | .clo n cs => p (.clo n cs) || anys p cs
  | v => p v
def anys (p : AV → Bool) : List AV → Bool
  | [] => false
  | x :: xs => any p x || anys p xs
end
mutual
/-- The rows that a value names, in the text's order. -/
def rows : AV → List Nat
  | .own id _ _ _ _ => [id]
  | .eptr id _ _ _ _ _ _ => [id]
  | .agg cs => rowss cs
  | .tup cs => rowss cs
  | .clo _ cs => rowss cs
  | _ => []
def rowss : List AV → List Nat
  | [] => []
  | x :: xs => rows x ++ rowss xs
end
end AV

/-- A type, as far as the evaluator asks. -/
inductive Tag where
  | slice | struct | string | bool | other
  | array (n : Nat)
  | int (k : IntKind)
deriving DecidableEq, Inhabited
structure TI where
  tag : Tag
  agg : Bool
  size : Nat
  bytes : Nat
  zero : Option Value
  elem : Nat
  fields : List (Nat × Nat × Bool)
  eqs : Option (List Nat)
deriving Inhabited

def tagD : TypeDesc → Tag
  | .slice _ => .slice
  | .struct _ => .struct
  | .string => .string
  | .bool => .bool
  | .array n _ => .array n
  | .int k => .int k
  | _ => .other
def isAggD : TypeDesc → Bool
  | .struct _ => true
  | .array _ _ => true
  | _ => false
def elemD : TypeDesc → Nat
  | .slice e => e
  | .array _ e => e
  | _ => 0
def sizeD (P : Program) (t : Nat) : Nat :=
  match P.info? t, P.underlying t with
  | some i, some _ => i.size
  | _, _ => 0
def fieldsD (P : Program) : TypeDesc → List (Nat × Nat × Bool)
  | .struct fs => fs.toList.map fun f => (f.offset, sizeD P f.type, ((P.underlying f.type).map isAggD).getD false)
  | _ => []
/-- Whole numbers, bools, strings: what '==' of structs is told of. -/
def kindD : TypeDesc → Option Nat
  | .int _ => some 0
  | .bool => some 1
  | .string => some 2
  | _ => none
def eqsFrom (P : Program) : Nat → List Field → Option (List Nat)
  | _, [] => some []
  | i, f :: fs => if f.name ≠ "_" ∧ f.offset = i then ((P.underlying f.type).bind kindD).bind fun k => (eqsFrom P (i + 1) fs).map (k :: ·) else none
def eqsOf (P : Program) (t : Nat) : TypeDesc → Option (List Nat)
  | .struct fs => if P.stoodInHeld t = false ∧ P.eqGuardType P.depth t = false then eqsFrom P 0 fs.toList else none
  | _ => none
def tiOf (P : Program) (t : Nat) : Option TI :=
  match P.info? t, P.underlying t with
  | some i, some d => some { tag := tagD d, agg := isAggD d, size := i.size, bytes := i.bytes, zero := i.zero, elem := elemD d, fields := fieldsD P d, eqs := eqsOf P t d }
  | _, _ => none
def tagOf (P : Program) (t : Nat) : Tag :=
  match tiOf P t with
  | some ti => ti.tag
  | none => .other
def isSliceT (P : Program) (t : Nat) : Bool := decide (tagOf P t = .slice)
def isStructT (P : Program) (t : Nat) : Bool := decide (tagOf P t = .struct)
def isStringT (P : Program) (t : Nat) : Bool := decide (tagOf P t = .string)
def isArrayT (P : Program) (t : Nat) : Option Nat :=
  match tagOf P t with
  | .array n => some n
  | _ => none

/-- A constant: a cell. -/
def ofCell : Value → Option AV
  | .int k n => some (.int k n)
  | .bool b => some (.bool b)
  | .string s => some (.str s)
  | .slice none 0 0 => some .nils
  | _ => none
def ofCells : List Value → Option (List AV)
  | [] => some []
  | v :: vs => (ofCell v).bind fun a => (ofCells vs).map (a :: ·)
def ofConst : Value → Option AV
  | .agg cs => (ofCells cs.toList).map .agg
  | v => ofCell v

structure St where
  sl : List (Nat × AV)
  bx : List (Nat × List AV)
  nx : Nat
  nt : Nat
deriving Inhabited

def look {α : Type} (i : Nat) : List (Nat × α) → Option α
  | [] => none
  | (j, v) :: r => if i = j then some v else look i r
def St.get (st : St) (i : Nat) : AV := (look i st.sl).getD .undef
def St.put (st : St) (d : Option Nat) (v : AV) : Option St :=
  match d with
  | none => some st
  | some i => if i < st.nt then some { st with sl := (i, v) :: st.sl } else none
def St.val (st : St) : Operand → AV
  | .tmp t => st.get t
  | .const v => (ofConst v).getD .undef
  | .global _ => .undef
  | .func f => .clo f []

/-! ### operations that change nothing -/
def evInt (op : BinOp) (k : IntKind) (x y : Int) : Option AV :=
  match op with
  | .add => some (.int k (k.wrap (x + y)))
  | .sub => some (.int k (k.wrap (x - y)))
  | .mul => some (.int k (k.wrap (x * y)))
  | .quo => if y = 0 then none else some (.int k (k.wrap (x.tdiv y)))
  | .rem => if y = 0 then none else some (.int k (x.tmod y))
  | .and => some (.int k (bits .and k x y))
  | .or => some (.int k (bits .or k x y))
  | .xor => some (.int k (bits .xor k x y))
  | .andNot => some (.int k (bits .andNot k x y))
  | .eql => some (.bool (x == y))
  | .neq => some (.bool (x != y))
  | .lss => some (.bool (decide (x < y)))
  | .leq => some (.bool (decide (x ≤ y)))
  | .gtr => some (.bool (decide (x > y)))
  | .geq => some (.bool (decide (x ≥ y)))
  | _ => none
def evShift (op : BinOp) (k : IntKind) (x y : Int) : Option AV :=
  if y < 0 then none else
  match op with
  | .shl => some (.int k (k.wrap (x * 2 ^ (min y.toNat k.bits))))
  | .shr => some (.int k (x.fdiv (2 ^ (min y.toNat k.bits))))
  | _ => none
def evStr (op : BinOp) (x y : ByteArray) : Option AV :=
  match op with
  | .add => if ((x.size + y.size : Nat) : Int) > IntKind.max .i64 then none else some (.str (x ++ y))
  | .eql => some (.bool (x.toList == y.toList))
  | .neq => some (.bool (!(x.toList == y.toList)))
  | .lss => some (.bool (Op.bytesLess x.toList y.toList))
  | .leq => some (.bool (Op.bytesLess x.toList y.toList || x.toList == y.toList))
  | .gtr => some (.bool (!(Op.bytesLess x.toList y.toList || x.toList == y.toList)))
  | .geq => some (.bool (!Op.bytesLess x.toList y.toList))
  | _ => none
/-- Two structs, cell by cell; whole numbers, bools and strings alone. -/
def eqK : List Nat → List AV → List AV → Option Bool
  | [], [], [] => some true
  | 0 :: ks, .int k x :: r, .int k' y :: s => if k = k' then (eqK ks r s).map fun t => (x == y) && t else none
  | 1 :: ks, .bool x :: r, .bool y :: s => (eqK ks r s).map fun t => (x == y) && t
  | 2 :: ks, .str x :: r, .str y :: s => (eqK ks r s).map fun t => (x.toList == y.toList) && t
  | _, _, _ => none
def evEq (P : Program) (t : Nat) (a b : List AV) : Option Bool := (tiOf P t).bind fun ti => ti.eqs.bind fun ks => eqK ks a b
def evBin (P : Program) (op : BinOp) (t : Nat) (x y : AV) : Option AV :=
  match x, y with
  | .int k a, .int k' b =>
    match op with
    | .shl => evShift .shl k a b
    | .shr => evShift .shr k a b
    | op => if k = k' then evInt op k a b else none
  | .str a, .str b => evStr op a b
  | .bool a, .bool b =>
    if tagOf P t = .bool then
      match op with
      | .eql => some (.bool (a == b))
      | .neq => some (.bool (!(a == b)))
      | _ => none
    else none
  | _, _ => none
def evUn (op : UnOp) (x : AV) : Option AV :=
  match op, x with
  | .neg, .int k n => some (.int k (k.wrap (0 - n)))
  | .not, .bool b => some (.bool (!b))
  | _, _ => none

/-- The cells behind an address. -/
def behind (bx : Nat → Option (List AV)) : AV → Option (List AV)
  | .ptr id off => (bx id).map (·.drop off)
  | .eptr _ _ _ _ xs i off => (xs[i]?).map fun x => x.cells.drop off
  | .cptr cs => some cs
  | _ => none
def takeVal (agg : Bool) (n : Nat) (cs : List AV) : Option AV :=
  if agg then (if n ≤ cs.length then some (.agg (cs.take n)) else none) else cs.head?
def evLoad (P : Program) (bx : Nat → Option (List AV)) (t : Nat) (p : AV) : Option AV :=
  (tiOf P t).bind fun ti => (behind bx p).bind fun cs => takeVal ti.agg ti.size cs
def evFieldAddr (P : Program) (t : Nat) (p : AV) (f : Nat) : Option AV :=
  if isStructT P t then
    (tiOf P t).bind fun ti => ti.fields[f]?.bind fun (off, size, _) => if size = 0 then none else
      match p with
      | .ptr id o => some (.ptr id (o + off))
      | .eptr id fz e sz xs i o => some (.eptr id fz e sz xs i (o + off))
      | .cptr cs => some (.cptr (cs.drop off))
      | _ => none
  else none
def evField (P : Program) (t : Nat) (x : AV) (f : Nat) : Option AV :=
  if isStructT P t then
    (tiOf P t).bind fun ti => ti.fields[f]?.bind fun (off, size, agg) =>
      match x with
      | .agg cs => if size = 0 then none else takeVal agg size (cs.drop off)
      | _ => none
  else none
def evIndexAddr (P : Program) (t : Nat) (x i : AV) : Option AV :=
  if isSliceT P t then
    (tiOf P t).bind fun ti => (tiOf P ti.elem).bind fun te =>
      match x, i with
      | .sl _ xs, .int _ n => if 0 ≤ n then (xs[n.toNat]?).bind fun x => if x.cells.length = te.size then some (.cptr x.cells) else none else none
      | .own id fz e sz xs, .int _ n => if sz = te.size ∧ 0 ≤ n ∧ n < xs.length then some (.eptr id fz e sz xs n.toNat 0) else none
      | _, _ => none
  else none
def evIndex (P : Program) (t : Nat) (x i : AV) : Option AV :=
  match x, i with
  | .str s, .int _ n => if isStringT P t then (if 0 ≤ n then (s[n.toNat]?).map fun b => .int .u8 b.toNat else none) else none
  | .agg cs, .int _ n =>
    (isArrayT P t).bind fun m => (tiOf P t).bind fun ti => (tiOf P ti.elem).bind fun te =>
      if te.agg = false ∧ te.size = 1 ∧ 0 ≤ n ∧ n < m then cs[n.toNat]? else none
  | _, _ => none
/-- The cells of a struct that is built: parts laid over the zero value. -/
def fillCells (places : Nat → Option (Nat × Nat)) : List AV → List (Nat × AV) → Option (List AV)
  | zs, [] => some zs
  | zs, (i, x) :: r => (places i).bind fun (off, size) =>
      if x.cells.length = size ∧ size ≠ 0 ∧ off + size ≤ zs.length then fillCells places (zs.take off ++ x.cells ++ zs.drop (off + size)) r else none
def evBuild (P : Program) (t : Nat) (parts : List (Nat × AV)) : Option AV :=
  (tiOf P t).bind fun ti => if parts.all (fun p => !p.2.isUndef) then ti.zero.bind fun z => (ofCells z.cells.toList).bind fun zs =>
    if isStructT P t then (if ti.fields.all (fun f => decide (f.2.1 ≠ 0)) then (fillCells (fun i => (ti.fields[i]?).map fun f => (f.1, f.2.1)) zs parts).map .agg else none)
    else match isArrayT P t with
      | some _ => (tiOf P ti.elem).bind fun te => (fillCells (fun i => some (i * te.size, te.size)) zs parts).map .agg
      | none => none
    else none
def evConvert (P : Program) (s d : Nat) (x : AV) : Option AV :=
  (tiOf P s).bind fun _ =>
    match tagOf P d, x with
    | .int k, .int _ n => some (.int k (k.wrap n))
    | .string, .str s => some (.str s)
    | _, _ => none
def evLen (P : Program) (t : Nat) (x : AV) : Option AV :=
  match x with
  | .str s => if isStringT P t then some (.int .i64 s.size) else none
  | .nils => if isSliceT P t then some (.int .i64 0) else none
  | .sl _ xs => if isSliceT P t then some (.int .i64 xs.length) else none
  | .own _ _ _ _ xs => if isSliceT P t then some (.int .i64 xs.length) else none
  | _ => none
/-- A cut of a string. -/
def evCutStr (s : ByteArray) (lo hi : Option AV) : Option AV :=
  match lo, hi with
  | none, none => some (.str (s.extract 0 s.size))
  | some (.int _ a), none => if 0 ≤ a ∧ a ≤ s.size then some (.str (s.extract a.toNat s.size)) else none
  | none, some (.int _ b) => if 0 ≤ b ∧ b ≤ s.size then some (.str (s.extract 0 b.toNat)) else none
  | some (.int _ a), some (.int _ b) => if 0 ≤ a ∧ a ≤ b ∧ b ≤ s.size then some (.str (s.extract a.toNat b.toNat)) else none
  | _, _ => none
/-- A cut of a row that is read; size: an element's cells. -/
def evCutRow (size : Nat) (fl : Bool) (xs : List AV) (lo hi : Option AV) : Option AV :=
  match lo, hi with
  | some (.int _ a), none => if 0 ≤ a ∧ a ≤ xs.length ∧ xs.all (fun x => decide (x.cells.length = size)) then some (.sl fl (xs.drop a.toNat)) else none
  | none, some (.int _ b) => if 0 ≤ b ∧ b ≤ xs.length then some (.sl fl (xs.take b.toNat)) else none
  | some (.int _ a), some (.int _ b) => if 0 ≤ a ∧ a ≤ b ∧ b ≤ xs.length ∧ xs.all (fun x => decide (x.cells.length = size)) then some (.sl fl ((xs.take b.toNat).drop a.toNat)) else none
  | _, _ => none

end Go.Proofs.Ytgckhjcfcandmaa.Flat
