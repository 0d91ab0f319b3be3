/-
The evaluator, a step at a time: the operations.
-/
import Derived.Test.YtgckhjcfcandmaaFlatDA
set_option linter.unusedVariables false
set_option linter.unusedSimpArgs false
namespace Go.Proofs.Ytgckhjcfcandmaa.Flat
section
variable {E : Env} {Φ : Phi} {n f np nid : Nat} {all : List Oper} {st st' : St} {dst : Option Nat} {type : TypeId} {pos : String} {after : Array Edge} {guard : Option (Nat × Bool)} {P : Program}

def thenPut (st : St) (dst : Option Nat) (x : Option AV) : Option St := x.bind (st.put dst)
theorem thenPut_some {v : AV} : thenPut st dst (some v) = st.put dst v := rfl
def lookD (i : Nat) : List (Nat × AV) → AV
  | [] => .undef
  | (j, v) :: r => if i = j then v else lookD i r
theorem get_mk {sl : List (Nat × AV)} {bx : List (Nat × List AV)} {nx nt i : Nat} : St.get { sl := sl, bx := bx, nx := nx, nt := nt } i = lookD i sl := by
  simp only [St.get]
  induction sl with
  | nil => rfl
  | cons p r ih =>
    obtain ⟨j, v⟩ := p
    simp only [look, lookD]
    split
    · rfl
    · exact ih
theorem lookD_cons {i j : Nat} {v : AV} {r : List (Nat × AV)} : lookD i ((j, v) :: r) = if i = j then v else lookD i r := rfl
theorem look_c {i j : Nat} {v : List AV} {r : List (Nat × List AV)} : look i ((j, v) :: r) = if i = j then some v else look i r := rfl
theorem box_mk {sl : List (Nat × AV)} {bx : List (Nat × List AV)} {nx nt i : Nat} : St.box { sl := sl, bx := bx, nx := nx, nt := nt } i = look i bx := rfl
theorem setBox_mk {sl : List (Nat × AV)} {bx : List (Nat × List AV)} {nx nt i : Nat} {cs : List AV} : St.setBox { sl := sl, bx := bx, nx := nx, nt := nt } i cs = { sl := sl, bx := (i, cs) :: bx, nx := nx, nt := nt } := rfl
theorem put_mk {sl : List (Nat × AV)} {bx : List (Nat × List AV)} {nx nt i : Nat} {v : AV} : St.put { sl := sl, bx := bx, nx := nx, nt := nt } (some i) v = if i < nt then some { sl := (i, v) :: sl, bx := bx, nx := nx, nt := nt } else none := rfl
theorem val_tmp {t : Nat} : st.val (.tmp t) = st.get t := rfl
theorem val_func {g : Nat} : st.val (.func g) = .clo g [] := rfl
theorem val_int {k : IntKind} {z : Int} : st.val (.const (.int k z)) = .int k z := rfl
theorem val_bool {b : Bool} : st.val (.const (.bool b)) = .bool b := rfl
theorem val_str {s : ByteArray} : st.val (.const (.string s)) = .str s := rfl
theorem val_nils : st.val (.const (.slice none 0 0)) = .nils := rfl

theorem op_move {x : Operand} : evOp E Φ nid { dst, op := .move x, type, pos, after, guard } st = st.put dst (st.val x) := rfl
theorem op_assign {x : Operand} : evOp E Φ nid { dst, op := .assign x, type, pos, after, guard } st = st.put dst (st.val x) := rfl
def evPick (x y : AV) : AV → Option AV
  | .bool t => some (if t = true then x else y)
  | _ => none
theorem pick_true {x y : AV} : evPick x y (.bool true) = some x := rfl
theorem pick_false {x y : AV} : evPick x y (.bool false) = some y := rfl
theorem pick_bools {t a b : Bool} : evPick (.bool a) (.bool b) (.bool t) = some (.bool (if t = true then a else b)) := by cases t <;> rfl
theorem op_pick {c x y : Operand} : evOp E Φ nid { dst, op := .pick c x y, type, pos, after, guard } st = thenPut st dst (evPick (st.val x) (st.val y) (st.val c)) := by
  simp only [evOp, evFree, thenPut]
  cases st.val c <;> rfl
theorem op_load {t : TypeId} {x : Operand} : evOp E Φ nid { dst, op := .load t x, type, pos, after, guard } st = thenPut st dst (evLoad E.P st.box t (st.val x)) := by
  simp only [evOp, evFree, thenPut]
  cases evLoad E.P st.box t (st.val x) <;> rfl
theorem op_fieldAddr {t : TypeId} {x : Operand} {i : Nat} : evOp E Φ nid { dst, op := .fieldAddr t x i, type, pos, after, guard } st = thenPut st dst (evFieldAddr E.P t (st.val x) i) := by
  simp only [evOp, evFree, thenPut]
  cases evFieldAddr E.P t (st.val x) i <;> rfl
theorem op_field {t : TypeId} {x : Operand} {i : Nat} : evOp E Φ nid { dst, op := .field t x i, type, pos, after, guard } st = thenPut st dst (evField E.P t (st.val x) i) := by
  simp only [evOp, evFree, thenPut]
  cases evField E.P t (st.val x) i <;> rfl
theorem op_indexAddr {t : TypeId} {x y : Operand} : evOp E Φ nid { dst, op := .indexAddr t x y, type, pos, after, guard } st = thenPut st dst (evIndexAddr E.P t (st.val x) (st.val y)) := by
  simp only [evOp, evFree, thenPut]
  cases evIndexAddr E.P t (st.val x) (st.val y) <;> rfl
theorem op_index {t : TypeId} {x y : Operand} : evOp E Φ nid { dst, op := .index t x y, type, pos, after, guard } st = thenPut st dst (evIndex E.P t (st.val x) (st.val y)) := by
  simp only [evOp, evFree, thenPut]
  cases evIndex E.P t (st.val x) (st.val y) <;> rfl
theorem op_unOp {u : UnOp} {t : TypeId} {x : Operand} : evOp E Φ nid { dst, op := .unOp u t x, type, pos, after, guard } st = thenPut st dst (evUn u (st.val x)) := by
  simp only [evOp, evFree, thenPut]
  cases evUn u (st.val x) <;> rfl
theorem op_convert {s d : TypeId} {x : Operand} : evOp E Φ nid { dst, op := .convert s d x, type, pos, after, guard } st = thenPut st dst (evConvert E.P s d (st.val x)) := by
  simp only [evOp, evFree, thenPut]
  cases evConvert E.P s d (st.val x) <;> rfl
def evBin2 (P : Program) (op : BinOp) (t : TypeId) : AV → AV → Option AV
  | .agg a, .agg b => (evEq P t a b).bind fun r => match op with | .eql => some (.bool r) | .neq => some (.bool (!r)) | _ => none
  | a, b => evBin P op t a b
theorem evBin2_map (op : BinOp) (t : TypeId) (X Y : AV) : (match X, Y with
    | .agg a, .agg b => (evEq P t a b).bind fun r => (match op with | .eql => some (.bool r, ([] : List Nat)) | .neq => some (.bool (!r), []) | _ => none)
    | a, b => (evBin P op t a b).map (·, [])) = (evBin2 P op t X Y).map (·, []) := by
  cases X <;> cases Y <;> first
    | rfl
    | (rename_i a b
       simp only [evBin2]
       cases evEq P t a b with
       | none => rfl
       | some r => cases op <;> rfl)
theorem op_binOp {op : BinOp} {t u : TypeId} {x y : Operand} : evOp E Φ nid { dst, op := .binOp op t x y u, type, pos, after, guard } st = thenPut st dst (evBin2 E.P op t (st.val x) (st.val y)) := by
  have h : evFree E Φ st.box nid st.val (.binOp op t x y u) = (evBin2 E.P op t (st.val x) (st.val y)).map (·, []) := evBin2_map (P := E.P) op t (st.val x) (st.val y)
  show (evFree E Φ st.box nid st.val (.binOp op t x y u)).bind (fun (v, _) => st.put dst v) = _
  rw [h]
  simp only [thenPut]
  cases evBin2 E.P op t (st.val x) (st.val y) <;> rfl
def evExtract (i : Nat) : AV → Option AV
  | .tup vs => vs[i]?
  | _ => none
theorem extract_tup {vs : List AV} {i : Nat} : evExtract i (.tup vs) = vs[i]? := rfl
theorem op_extract {x : Operand} {i : Nat} : evOp E Φ nid { dst, op := .extract x i, type, pos, after, guard } st = thenPut st dst (evExtract i (st.val x)) := by
  have h : evFree E Φ st.box nid st.val (.extract x i) = (evExtract i (st.val x)).map (·, []) := by
    simp only [evFree, evExtract]
    cases st.val x <;> rfl
  show (evFree E Φ st.box nid st.val (.extract x i)).bind (fun (v, _) => st.put dst v) = _
  rw [h]
  simp only [thenPut]
  cases evExtract i (st.val x) <;> rfl
theorem op_build {t : TypeId} {ps : Array (Nat × Operand)} : evOp E Φ nid { dst, op := .build t ps, type, pos, after, guard } st = thenPut st dst (evBuild E.P t (ps.toList.map fun p => (p.1, st.val p.2))) := by
  simp only [evOp, evFree, thenPut]
  cases evBuild E.P t (ps.toList.map fun p => (p.1, st.val p.2)) <;> rfl
theorem op_len {x : Operand} {t : TypeId} : evOp E Φ nid { dst, op := .call { callee := .builtin .len, args := #[x], argTypes := #[t] }, type, pos, after, guard } st = thenPut st dst (evLen E.P t (st.val x)) := by
  simp only [evOp, evFree, thenPut]
  simp only [List.getElem?_toArray, List.getElem?_cons_zero]
  cases evLen E.P t (st.val x) <;> rfl
theorem op_alloc {t : TypeId} : evOp E Φ nid { dst, op := .alloc t, type, pos, after, guard } st = evAlloc E.P t nid dst st := rfl
theorem op_box {t : TypeId} {x : Operand} : evOp E Φ nid { dst, op := .box t x, type, pos, after, guard } st = evBox nid dst (st.val x) st := rfl
theorem op_store {t : TypeId} {x p : Operand} : evOp E Φ nid { dst, op := .store t p x, type, pos, after, guard } st = evStore E.P t (st.val p) (st.val x) dst st := rfl
theorem op_buildSlice {t : TypeId} {len : Nat} {ps : Array (Nat × Operand)} : evOp E Φ nid { dst, op := .buildSlice t len ps, type, pos, after, guard } st = evBuildSlice E.P t len (ps.toList.map fun p => (p.1, st.val p.2)) nid dst st := rfl
theorem op_makeSlice {t : TypeId} {l c : Operand} : evOp E Φ nid { dst, op := .makeSlice t l c, type, pos, after, guard } st = evMakeSlice E.P t (st.val l) (st.val c) nid dst st := rfl
theorem op_append {s x : Operand} {t u : TypeId} : evOp E Φ nid { dst, op := .call { callee := .builtin .append, args := #[s, x], argTypes := #[t, u] }, type, pos, after, guard } st = evAppend E.P t u (st.val s) (st.val x) nid dst st := rfl
theorem op_makeFunc {g : Nat} {cs : Array Operand} : evOp E Φ nid { dst, op := .makeFunc (.func g) #[] cs, type, pos, after, guard } st = st.put dst (.clo g (cs.toList.map st.val)) := rfl

/-- What a call of a function hands back. -/
def afterRo (nid : Nat) (dst : Option Nat) (st : St) (args : List AV) : Option (AV × List (List AV)) → Option St
  | some (ret, []) => if small ret = true then (if noref ret = true then st.put dst (import_ nid ret) else if args.any (·.any isPtr) = true then none else (st.freeze (args.flatMap AV.rows)).put dst (import_ nid ret)) else none
  | _ => none
theorem op_call {fo : Operand} {as : Array Operand} {ts : Array TypeId} {g : Nat} {caps : List AV} (hf : st.val fo = .clo g caps) (hk : E.kill g = false) (hm : (E.md g).all (· == .ro) = true) :
    evOp E Φ nid { dst, op := .call { callee := .value fo, args := as, argTypes := ts }, type, pos, after, guard } st =
      afterRo nid dst st (as.toList.map st.val ++ caps) (Φ g ((as.toList.map st.val ++ caps).map (lend st.box 4)) []) := by
  simp only [evOp, hf, hk, hm, Bool.false_eq_true, if_false, if_true, evRo]
  cases Φ g ((as.toList.map st.val ++ caps).map (lend st.box 4)) [] with
  | none => rfl
  | some p =>
    obtain ⟨ret, fin⟩ := p
    cases fin with
    | cons _ _ => rfl
    | nil =>
      simp only [Option.bind_some, afterRo]
      split
      · split
        · rfl
        · split <;> rfl
      · rfl
theorem opQ_call {fo : Operand} {as : Array Operand} {ts : Array TypeId} {g : Nat} {caps : List AV} {ret : AV} (hf : st.val fo = .clo g caps) (hk : E.kill g = false) (hm : (E.md g).all (· == .ro) = true)
    (hΦ : Φ g ((as.toList.map st.val ++ caps).map (lend st.box 4)) [] = some (ret, [])) (hs : small ret = true) (hn : noref ret = true) :
    evOpQ E Φ nid { dst, op := .call { callee := .value fo, args := as, argTypes := ts }, type, pos, after, guard } st = st.put dst (import_ nid ret) := by
  simp only [evOpQ, hf, hk, hm, Bool.false_eq_true, if_false, if_true, evRo, hΦ, Option.bind_some, hs, hn]

/-- What is handed back. -/
def finV (v : AV) : Option (AV × List (List AV)) :=
  if noPtr v ∧ nodupB (dedup v.rows) ∧ v.rows.all (fun r => decide (r ∈ dedup v.rows)) then some (rename (dedup v.rows) v, []) else none
theorem finish_tmp {t : Nat} : finish P [] [.tmp t] 0 st = finV (st.get t) := by
  simp [finish, resultsOf, resultOf, boxesUpto, mutSlots, tupOf, finV]
theorem finish_cell {a : Nat} {t : TypeId} : finish P [] [.cell a t] 0 st = (evLoad P st.box t (st.get a)).bind finV := by
  simp only [finish, resultsOf, resultOf, boxesUpto, mutSlots]
  cases evLoad P st.box t (st.get a) with
  | none => rfl
  | some v => simp [tupOf, finV]
theorem finish_two {t u : Nat} : finish P [] [.tmp t, .tmp u] 0 st = finV (.tup [st.get t, st.get u]) := by
  simp [finish, resultsOf, resultOf, boxesUpto, mutSlots, tupOf, finV]
theorem finish_three {t u v : Nat} : finish P [] [.tmp t, .tmp u, .tmp v] 0 st = finV (.tup [st.get t, st.get u, st.get v]) := by
  simp [finish, resultsOf, boxesUpto, mutSlots, tupOf, finV]
theorem finV_bool {b : Bool} : finV (.bool b) = some (.bool b, []) := rfl
theorem finV_int {k : IntKind} {z : Int} : finV (.int k z) = some (.int k z, []) := rfl
theorem finV_str {s : ByteArray} : finV (.str s) = some (.str s, []) := rfl
/-- Cells without names. -/
def plainC : AV → Bool
  | .int _ _ => true
  | .bool _ => true
  | .str _ => true
  | .sl _ _ => true
  | _ => false
theorem plain_facts : ∀ {cs : List AV}, cs.all plainC = true → AV.rowss cs = [] ∧ AV.anys isBad cs = false ∧ ∀ f g h z, AV.mapOs f g h z cs = cs
  | [], _ => ⟨rfl, rfl, fun _ _ _ _ => rfl⟩
  | c :: r, h => by
    simp only [List.all_cons, Bool.and_eq_true] at h
    obtain ⟨h1, h2, h3⟩ := plain_facts h.2
    cases c <;> simp [plainC] at h
    all_goals exact ⟨by simp [AV.rowss, AV.rows, h1], by show (AV.any _ _ || AV.anys _ r) = false; rw [h2]; rfl, fun f g h z => by simp [AV.mapOs, AV.mapO, h3]⟩
theorem finV_agg {cs : List AV} (h : cs.all plainC = true) : finV (.agg cs) = some (.agg cs, []) := by
  obtain ⟨h1, h2, h3⟩ := plain_facts h
  have hp : noPtr (.agg cs) = true := by
    simp only [noPtr, AV.any, h2]
    rfl
  simp [finV, AV.rows, h1, hp, rename, AV.mapO, h3, nodupB, dedup]

theorem lend_int {bx : Nat → Option (List AV)} {m : Nat} {k : IntKind} {z : Int} : lend bx (m + 1) (.int k z) = .int k z := rfl
theorem lend_bool {bx : Nat → Option (List AV)} {m : Nat} {b : Bool} : lend bx (m + 1) (.bool b) = .bool b := rfl
theorem lend_str {bx : Nat → Option (List AV)} {m : Nat} {s : ByteArray} : lend bx (m + 1) (.str s) = .str s := rfl
theorem lend_sl {bx : Nat → Option (List AV)} {m : Nat} {fl : Bool} {xs : List AV} : lend bx (m + 1) (.sl fl xs) = .sl fl xs := rfl
theorem lend_nils {bx : Nat → Option (List AV)} {m : Nat} : lend bx (m + 1) .nils = .sl true [] := rfl
theorem lend_own {bx : Nat → Option (List AV)} {m id e sz : Nat} {fz : Bool} {xs : List AV} : lend bx (m + 1) (.own id fz e sz xs) = .sl true xs := rfl
theorem lend_agg {bx : Nat → Option (List AV)} {m : Nat} {cs : List AV} : lend bx (m + 1) (.agg cs) = .agg (cs.map (lend bx (m + 1))) := by
  show AV.mapO _ _ _ _ _ = AV.agg (cs.map (AV.mapO _ _ _ _))
  rw [AV.mapO, AV.mapOs_eq]
theorem after_bool {args : List AV} {b : Bool} : afterRo nid dst st args (some (.bool b, [])) = st.put dst (.bool b) := rfl
theorem after_int {args : List AV} {k : IntKind} {z : Int} : afterRo nid dst st args (some (.int k z, [])) = st.put dst (.int k z) := rfl
theorem after_str {args : List AV} {s : ByteArray} : afterRo nid dst st args (some (.str s, [])) = st.put dst (.str s) := rfl
def plainS : AV → Bool
  | .int _ _ => true
  | .bool _ => true
  | .str _ => true
  | _ => false
theorem plainS_facts : ∀ {cs : List AV}, cs.all plainS = true → AV.rowss cs = [] ∧ AV.anys isRef cs = false ∧ ∀ f g h z, AV.mapOs f g h z cs = cs
  | [], _ => ⟨rfl, rfl, fun _ _ _ _ => rfl⟩
  | c :: r, h => by
    simp only [List.all_cons, Bool.and_eq_true] at h
    obtain ⟨h1, h2, h3⟩ := plainS_facts h.2
    cases c <;> simp [plainS] at h
    all_goals exact ⟨by simp [AV.rowss, AV.rows, h1], by show (AV.any _ _ || AV.anys _ r) = false; rw [h2]; rfl, fun f g h z => by simp [AV.mapOs, AV.mapO, h3]⟩
theorem after_agg {args cs : List AV} (h : cs.all plainS = true) : afterRo nid dst st args (some (.agg cs, [])) = st.put dst (.agg cs) := by
  obtain ⟨h1, h2, h3⟩ := plainS_facts h
  have hn : noref (.agg cs) = true := by
    simp only [noref, AV.any, h2]
    rfl
  have hs : small (.agg cs) = true := by simp [small, AV.rows, h1]
  simp [afterRo, hn, hs, import_, AV.mapO, h3]
theorem op_callF {g : Nat} {as : Array Operand} {ts : Array TypeId} (hk : E.kill g = false) (hm : (E.md g).all (· == .ro) = true) :
    evOp E Φ nid { dst, op := .call { callee := .value (.func g), args := as, argTypes := ts }, type, pos, after, guard } st =
      afterRo nid dst st (as.toList.map st.val ++ []) (Φ g ((as.toList.map st.val ++ []).map (lend st.box 4)) []) := op_call rfl hk hm
def afterRoQ (nid : Nat) (dst : Option Nat) (st : St) (args : List AV) : Option (AV × List (List AV)) → Option St
  | some (ret, []) => if small ret = true then (if noref ret = true then st.put dst (import_ nid ret) else if args.any (·.any isPtr) = true then none else (match args.flatMap AV.rows with | [] => st.put dst (import_ nid ret) | _ => none)) else none
  | _ => none
theorem opQ_callF {g : Nat} {as : Array Operand} {ts : Array TypeId} (hk : E.kill g = false) (hm : (E.md g).all (· == .ro) = true) :
    evOpQ E Φ nid { dst, op := .call { callee := .value (.func g), args := as, argTypes := ts }, type, pos, after, guard } st =
      afterRoQ nid dst st (as.toList.map st.val ++ []) (Φ g ((as.toList.map st.val ++ []).map (lend st.box 4)) []) := by
  simp only [evOpQ, val_func, hk, hm, Bool.false_eq_true, if_false, if_true, evRo]
  cases Φ g ((as.toList.map st.val ++ []).map (lend st.box 4)) [] with
  | none => rfl
  | some p =>
    obtain ⟨ret, fin⟩ := p
    cases fin with
    | cons _ _ => rfl
    | nil =>
      simp only [Option.bind_some, afterRoQ]
      split
      · split
        · rfl
        · split
          · rfl
          · simp only [Option.bind_some]
            generalize List.flatMap AV.rows (List.map st.val as.toList ++ []) = l
            cases l <;> rfl
      · rfl
theorem afterQ_bool {args : List AV} {b : Bool} : afterRoQ nid dst st args (some (.bool b, [])) = st.put dst (.bool b) := rfl
theorem afterQ_int {args : List AV} {k : IntKind} {z : Int} : afterRoQ nid dst st args (some (.int k z, [])) = st.put dst (.int k z) := rfl
theorem afterQ_agg {args cs : List AV} (h : cs.all plainS = true) : afterRoQ nid dst st args (some (.agg cs, [])) = st.put dst (.agg cs) := by
  obtain ⟨h1, h2, h3⟩ := plainS_facts h
  have hn : noref (.agg cs) = true := by
    simp only [noref, AV.any, h2]
    rfl
  have hs : small (.agg cs) = true := by simp [small, AV.rows, h1]
  simp [afterRoQ, hn, hs, import_, AV.mapO, h3]
theorem bin_quo {t : TypeId} {k : IntKind} {a b : Int} (hb : b ≠ 0) : evBin2 P .quo t (.int k a) (.int k b) = some (.int k (k.wrap (a.tdiv b))) := by simp [evBin2, evBin, evInt, hb]
theorem bin_aeql {t : TypeId} {a b : List AV} : evBin2 P .eql t (.agg a) (.agg b) = (evEq P t a b).bind fun r => some (.bool r) := rfl
theorem bin_aneq {t : TypeId} {a b : List AV} : evBin2 P .neq t (.agg a) (.agg b) = (evEq P t a b).bind fun r => some (.bool (!r)) := rfl
theorem run_succ {ext : Nat → Option (List AV → List (List AV) → Option (AV × List (List AV)))} {k f : Nat} {args : List AV} (he : ext f = none) (ho : E.ok f = true) : run E ext (k + 1) f args [] = body E (run E ext k) k f args [] := by
  simp [run, he, ho]

theorem bin_lss {t : TypeId} {k : IntKind} {a b : Int} : evBin2 P .lss t (.int k a) (.int k b) = some (.bool (decide (a < b))) := by simp [evBin2, evBin, evInt]
theorem bin_leq {t : TypeId} {k : IntKind} {a b : Int} : evBin2 P .leq t (.int k a) (.int k b) = some (.bool (decide (a ≤ b))) := by simp [evBin2, evBin, evInt]
theorem bin_gtr {t : TypeId} {k : IntKind} {a b : Int} : evBin2 P .gtr t (.int k a) (.int k b) = some (.bool (decide (b < a))) := by simp [evBin2, evBin, evInt]
theorem bin_geq {t : TypeId} {k : IntKind} {a b : Int} : evBin2 P .geq t (.int k a) (.int k b) = some (.bool (decide (b ≤ a))) := by simp [evBin2, evBin, evInt]
theorem bin_eql {t : TypeId} {k : IntKind} {a b : Int} : evBin2 P .eql t (.int k a) (.int k b) = some (.bool (a == b)) := by simp [evBin2, evBin, evInt]
theorem bin_neq {t : TypeId} {k : IntKind} {a b : Int} : evBin2 P .neq t (.int k a) (.int k b) = some (.bool (a != b)) := by simp [evBin2, evBin, evInt]
theorem bin_add {t : TypeId} {k : IntKind} {a b : Int} : evBin2 P .add t (.int k a) (.int k b) = some (.int k (k.wrap (a + b))) := by simp [evBin2, evBin, evInt]
theorem bin_sub {t : TypeId} {k : IntKind} {a b : Int} : evBin2 P .sub t (.int k a) (.int k b) = some (.int k (k.wrap (a - b))) := by simp [evBin2, evBin, evInt]
theorem bin_mul {t : TypeId} {k : IntKind} {a b : Int} : evBin2 P .mul t (.int k a) (.int k b) = some (.int k (k.wrap (a * b))) := by simp [evBin2, evBin, evInt]
theorem bin_beql {t : TypeId} {a b : Bool} (h : tagOf P t = .bool) : evBin2 P .eql t (.bool a) (.bool b) = some (.bool (a == b)) := by simp [evBin2, evBin, h]
theorem bin_bneq {t : TypeId} {a b : Bool} (h : tagOf P t = .bool) : evBin2 P .neq t (.bool a) (.bool b) = some (.bool (!(a == b))) := by simp [evBin2, evBin, h]
theorem bin_seql {t : TypeId} {a b : ByteArray} : evBin2 P .eql t (.str a) (.str b) = some (.bool (a.toList == b.toList)) := by simp [evBin2, evBin, evStr]
theorem bin_sneq {t : TypeId} {a b : ByteArray} : evBin2 P .neq t (.str a) (.str b) = some (.bool (!(a.toList == b.toList))) := by simp [evBin2, evBin, evStr]
theorem un_not {b : Bool} : evUn .not (.bool b) = some (.bool (!b)) := rfl
theorem un_neg {k : IntKind} {z : Int} : evUn .neg (.int k z) = some (.int k (k.wrap (0 - z))) := rfl
end
end Go.Proofs.Ytgckhjcfcandmaa.Flat
