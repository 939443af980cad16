/- HL: the code that a proof walks over, made of the model's code by 'strip'; what it asks for, 'vc'. Nothing of a seat is named here. -/
import Derived.Test.YtamneeogomklgaaGreatHLCore
set_option linter.unusedSimpArgs false
set_option linter.unusedVariables false
set_option linter.unusedSectionVars false
namespace HL
open Go
inductive HArg where
  | t (n : Nat)
  | c (v : HV)
  deriving Inhabited
inductive HOp where
  | mov (x : HArg)
  | pick (c a b : HArg)
  | alloc (z : HV)
  | box (x : HArg)
  | build (z : List HV) (parts : List (Nat × Nat × HArg))
  | bslice (sz n : Nat) (z : List HV) (parts : List (Nat × HArg))
  | load (ag : Bool) (n : Nat) (a : HArg)
  | store (n : Nat) (a x : HArg)
  | nilchk (x : HArg)
  | bin (op : BinOp) (x y : HArg)
  | bbin (op : BinOp) (x y : HArg)
  | pbin (op : BinOp) (x y : HArg)
  | not (x : HArg)
  | neg (x : HArg)
  | conv (k : IntKind) (x : HArg)
  | mkfn (f : FuncId) (first caps : List HArg)
  | mkslice (sz bytes : Nat) (z : HV) (n c : HArg)
  | substr (x : HArg) (lo hi : Option HArg)
  | slice (sz : Nat) (x : HArg) (lo hi mx : Option HArg)
  | faddr (off : Nat) (a : HArg)
  | fld (ag : Bool) (off n : Nat) (x : HArg)
  | iaddr (sz : Nat) (x i : HArg)
  | idx (x i : HArg)
  | ext (x : HArg) (i : Nat)
  | len (x : HArg)
  | cap (x : HArg)
  | slen (x : HArg)
  | snil (ne : Bool) (x : HArg)
  | shft (op : BinOp) (x y : HArg)
  | abin (ks : List Nat) (ne : Bool) (x y : HArg)
  | clr (sz : Nat) (z : HV) (x : HArg)
  | bstr (x : HArg)
  | bmark (x : HArg)
  | append (sz bytes : Nat) (x y : HArg)
  | max (x y : HArg)
  | min (x y : HArg)
  | call (f : HArg) (args : List HArg)
  deriving Inhabited
structure HIns where
  dst : Option Nat
  op : HOp
  guard : Option (Nat × Bool)
  deriving Inhabited
inductive DPlan where
  | done
  | none
  | q (i : HIns) (rest : DPlan)
  | l (i : HIns) (chk : List HIns) (rest : DPlan) (more : DPlan)
  deriving Inhabited
inductive HCode where
  | skip
  | reg (ops : List HIns)
  | dreg (p : DPlan)
  | seq (a b : HCode)
  | cond (c : HArg) (a b : HCode)
  | block (id : Nat) (c : HCode)
  | loop (c : HCode)
  | exit (id : Nat)
  | ret
  deriving Inhabited
structure HFunc where
  np : Nat
  ntmps : Nat
  results : List (Nat × Option (Bool × Nat))
  body : HCode
  deriving Inhabited
/-! ### strip -/
def cell1 : Value → Option HV
  | .int k n => some (.int k n)
  | .bool b => some (.bool b)
  | .string s => if s.size ≤ lim then some (.str s) else none
  | .pointer none => some .nilp
  | .slice none 0 0 => some .nils
  | .nilFunc => some .nilf
  | _ => none
def hvOf : Value → Option HV
  | .agg cs => (cs.toList.mapM cell1).map .agg
  | .tuple cs => if cs.isEmpty then some (.tup []) else none
  | v => cell1 v
def arg : Operand → Option HArg
  | .tmp t => some (.t t)
  | .const v => (hvOf v).map .c
  | .func f => some (.c (.fn f [] []))
  | .global _ => none
def szT (P : Program) (t : TypeId) : Option Nat := (P.info? t).map (·.size)
def bytesT (P : Program) (t : TypeId) : Option Nat := (P.info? t).map (·.bytes)
def zeroT (P : Program) (t : TypeId) : Option HV := (P.info? t).bind fun i => i.zero.bind hvOf
def aggT (P : Program) (t : TypeId) : Option Bool := (P.underlying t).map fun | .struct _ => true | .array _ _ => true | _ => false
def fieldsT (P : Program) (t : TypeId) : Option (Array Field) := (P.underlying t).bind fun | .struct fs => some fs | _ => none
def elemT (P : Program) (t : TypeId) : Option TypeId := (P.underlying t).bind fun | .slice e => some e | _ => none
def strT (P : Program) (t : TypeId) : Bool := match P.underlying t with | some .string => true | _ => false
def intT (P : Program) (t : TypeId) : Option IntKind := (P.underlying t).bind fun | .int k => some k | _ => none
def optArg : Option Operand → Option (Option HArg)
  | none => some none
  | some x => (arg x).map some
def nilS : Operand → Bool
  | .const (.slice none 0 0) => true
  | _ => false
def eqNe : BinOp → Option Bool
  | .eql => some false
  | .neq => some true
  | _ => none
def plainT (P : Program) (t : TypeId) : Option Nat := match P.underlying t with | some (.int _) => some 0 | some .bool => some 1 | some .string => some 2 | _ => none
def plainS (P : Program) (t : TypeId) (fs : Array Field) : Option (List Nat) :=
  if fs.toList.all (fun f => f.name != "_") && (fs.toList.map (·.offset) == List.range fs.size) && !P.stoodInHeld t && !P.eqGuardType P.depth t then fs.toList.mapM fun f => plainT P f.type else none
def isShift : BinOp → Bool
  | .shl => true
  | .shr => true
  | _ => false
def stripOp (P : Program) (o : Oper) : Option HOp :=
  match o.op with
  | .move x | .assign x => (arg x).map .mov
  | .pick c a b => do pure (.pick (← arg c) (← arg a) (← arg b))
  | .alloc e => (zeroT P e).map .alloc
  | .box _ x => (arg x).map .box
  | .build t parts => do
    let z ← zeroT P t
    let fs ← fieldsT P t
    let szs ← fs.toList.mapM fun f => szT P f.type
    let ps ← parts.toList.mapM fun p => do
      let f ← fs[p.1]?
      let n ← szs[p.1]?
      let x ← arg p.2
      pure (f.offset, n, x)
    if z.isAgg then pure (.build z.cells ps) else none
  | .buildSlice t len parts => do
    let e ← elemT P t
    let z ← zeroT P e
    let ps ← parts.toList.mapM fun p => do
      let x ← arg p.2
      pure (p.1, x)
    pure (.bslice (← szT P e) len z.cells ps)
  | .load t a => do pure (.load (← aggT P t) (← szT P t) (← arg a))
  | .store t a x => do pure (.store (← szT P t) (← arg a) (← arg x))
  | .nilCheck x => (arg x).map .nilchk
  | .binOp op t x y _ => match P.underlying t with
    | some (.int _) => if isShift op then do pure (.shft op (← arg x) (← arg y)) else do pure (.bin op (← arg x) (← arg y))
    | some .string => do pure (.bin op (← arg x) (← arg y))
    | some .bool => do pure (.bbin op (← arg x) (← arg y))
    | some (.pointer _) => do pure (.pbin op (← arg x) (← arg y))
    | some (.slice _) => if nilS y then do pure (.snil (← eqNe op) (← arg x)) else none
    | some (.struct fs) => do pure (.abin (← plainS P t fs) (← eqNe op) (← arg x) (← arg y))
    | _ => none
  | .unOp .not _ x => (arg x).map .not
  | .unOp .neg _ x => (arg x).map .neg
  | .convert s d x => if strT P d then (do
      let e ← elemT P s
      if intT P e = some .u8 then (arg x).map .bstr else none)
    else if s = d ∧ (elemT P s).bind (intT P) = some .u8 then (arg x).map .bmark
    else do
      let _ ← intT P s
      pure (.conv (← intT P d) (← arg x))
  | .makeFunc (.func f) first caps => do pure (.mkfn f (← first.toList.mapM arg) (← caps.toList.mapM arg))
  | .makeSlice t n c => do
    let e ← elemT P t
    pure (.mkslice (← szT P e) (← bytesT P e) (← zeroT P e) (← arg n) (← arg c))
  | .slice t x lo hi mx =>
    if strT P t then (if mx.isSome then none else do pure (.substr (← arg x) (← optArg lo) (← optArg hi)))
    else do
      let e ← elemT P t
      pure (.slice (← szT P e) (← arg x) (← optArg lo) (← optArg hi) (← optArg mx))
  | .fieldAddr t x f => do
    let fs ← fieldsT P t
    let f ← fs[f]?
    if szT P f.type = none ∨ szT P f.type = some 0 then none else
    pure (.faddr f.offset (← arg x))
  | .field t x f => do
    let fs ← fieldsT P t
    let f ← fs[f]?
    pure (.fld (← aggT P f.type) f.offset (← szT P f.type) (← arg x))
  | .indexAddr t x i => do
    let e ← elemT P t
    pure (.iaddr (← szT P e) (← arg x) (← arg i))
  | .index t x i => if strT P t then do pure (.idx (← arg x) (← arg i)) else none
  | .extract x i => (arg x).map (.ext · i)
  | .call { callee := .builtin .len, args, argTypes } => do
    let x ← args[0]?
    let t ← argTypes[0]?
    if strT P t then (arg x).map .slen else do
      let _ ← elemT P t
      (arg x).map .len
  | .call { callee := .builtin .cap, args, argTypes } => do
    let x ← args[0]?
    let _ ← elemT P (← argTypes[0]?)
    (arg x).map .cap
  | .call { callee := .builtin .append, args, argTypes } => do
    let x ← args[0]?
    let y ← args[1]?
    let t ← argTypes[0]?
    let e ← elemT P t
    let z ← zeroT P e
    if argTypes ≠ #[t, t] ∨ args.size ≠ 2 ∨ some z.cells.length ≠ szT P e then none else
    pure (.append (← szT P e) (← bytesT P e) (← arg x) (← arg y))
  | .call { callee := .builtin .clear, args, argTypes } => do
    let x ← args[0]?
    let e ← elemT P (← argTypes[0]?)
    pure (.clr (← szT P e) (← zeroT P e) (← arg x))
  | .call { callee := .builtin .max, args, argTypes } => do
    if args.size ≠ 2 then none else
    let _ ← intT P (← argTypes[0]?)
    pure (.max (← arg (← args[0]?)) (← arg (← args[1]?)))
  | .call { callee := .builtin .min, args, argTypes } => do
    if args.size ≠ 2 then none else
    let _ ← intT P (← argTypes[0]?)
    pure (.min (← arg (← args[0]?)) (← arg (← args[1]?)))
  | .call { callee := .value f, args, argTypes := _ } => do pure (.call (← arg f) (← args.toList.mapM arg))
  | _ => none
def stripIns (P : Program) (N : Nat) (ops : Array Oper) (o : Oper) : Option HIns := do
  if o.dst.any (fun d => decide (N ≤ d)) then none else
  let op ← stripOp P o
  match o.guard with
  | none => pure { dst := o.dst, op, guard := none }
  | some (j, b) => do
    let s ← (ops[j]?).bind (·.dst)
    pure { dst := o.dst, op, guard := some (s, b) }
/-! ### a region whose order is drawn -/
def HArg.tmps : HArg → List Nat
  | .t n => [n]
  | .c _ => []
def optL : Option HArg → List HArg
  | none => []
  | some x => [x]
def HOp.args : HOp → List HArg
  | .mov x | .box x | .nilchk x | .not x | .neg x | .conv _ x | .fld _ _ _ x | .ext x _ | .len x | .cap x | .slen x | .snil _ x | .clr _ _ x | .bstr x | .bmark x | .faddr _ x | .load _ _ x => [x]
  | .pick c a b => [c, a, b]
  | .alloc _ => []
  | .build _ parts => parts.map (·.2.2)
  | .bslice _ _ _ parts => parts.map (·.2)
  | .store _ a x => [a, x]
  | .bin _ x y | .shft _ x y | .abin _ _ x y | .bbin _ x y | .pbin _ x y | .max x y | .min x y | .iaddr _ x y | .idx x y | .append _ _ x y => [x, y]
  | .mkfn _ f c => f ++ c
  | .mkslice _ _ _ n c => [n, c]
  | .substr x lo hi => x :: (optL lo ++ optL hi)
  | .slice _ x lo hi mx => x :: (optL lo ++ optL hi ++ optL mx)
  | .call f args => f :: args
def HOp.loud : HOp → Bool
  | .alloc _ | .box _ | .bslice .. | .mkslice .. | .append .. | .store .. | .call .. | .cap _ | .slice .. | .snil .. | .clr .. | .bmark _ => true
  | _ => false
def HIns.reads (i : HIns) : List Nat := i.op.args.flatMap HArg.tmps ++ (match i.guard with | some (s, _) => [s] | none => [])
abbrev DL := List (HIns × List Nat)
def addAll (xs acc : List Nat) : List Nat := xs.foldl (fun acc x => if acc.contains x then acc else x :: acc) acc
def ancTab : DL → List (List Nat) → List (List Nat)
  | [], tab => tab
  | (_, ds) :: r, tab => ancTab r (tab ++ [ds.foldl (fun acc d => addAll (tab.getD d []) (addAll [d] acc)) []])
def loudI (L : DL) (T : List (List Nat)) (i : Nat) : Bool :=
  match L[i]? with
  | none => false
  | some x => x.1.op.loud || (match x.1.dst with
    | none => false
    | some d => (List.range L.length).any fun j => (match L[j]? with | some y => y.1.reads.contains d && !(T.getD j []).contains i | none => false))
def okDL (L : DL) (T : List (List Nat)) : Bool :=
  (List.range L.length).all fun i => match L[i]? with
    | none => false
    | some x => x.2.all (fun d => decide (d < i)) && ((T.getD i []).all fun j => x.2.contains j || x.2.any fun d => (T.getD d []).contains j) &&
      (match x.1.dst with
      | none => true
      | some d => (List.range L.length).all fun j => match L[j]? with
        | none => true
        | some y => (y.1.dst != some d || j == i) && (!y.1.reads.contains d || (T.getD j []).contains i || j == i || (T.getD i []).contains j))
def readyD (L : DL) (C : List Nat) : List Nat :=
  (List.range L.length).filter fun i => !C.contains i && (match L[i]? with | some x => x.2.all C.contains | none => false)
def insAt (L : DL) (i : Nat) : HIns := ((L[i]?).map (·.1)).getD default
def chkOf (L : DL) (T : List (List Nat)) (C : List Nat) (i : Nat) : List HIns :=
  (C.filter fun j => !loudI L T j && !(T.getD i []).contains j).map (insAt L)
def altsOf (L : DL) (T : List (List Nat)) (C : List Nat) (f : Nat → Option DPlan) : List Nat → Option DPlan
  | [] => some .none
  | i :: r => (f i).bind fun p => (altsOf L T C f r).map fun m => .l (insAt L i) (chkOf L T C i) p m
def mkplan (L : DL) (T : List (List Nat)) : Nat → List Nat → Option DPlan
  | 0, C => if (List.range L.length).all C.contains then some .done else none
  | n + 1, C => if (List.range L.length).all C.contains then some .done else
    match (readyD L C).find? (fun i => !loudI L T i) with
    | some i => (mkplan L T n (i :: C)).map (.q (insAt L i))
    | none => altsOf L T C (fun i => mkplan L T n (i :: C)) (readyD L C)
def planOf (L : DL) : Option DPlan :=
  let T := ancTab L []
  if okDL L T then mkplan L T L.length [] else none
def stuckI : HIns := { dst := none, op := .len (.c .nilp), guard := none }
def strip (P : Program) (N : Nat) : Code → Option HCode
  | .skip => some .skip
  | .region _ ops false => some (.reg ((ops.toList.mapM (stripIns P N ops)).getD [stuckI]))
  | .region _ ops true => if P.follows .mixedOrders then ((ops.toList.mapM fun o => (stripIns P N ops o).map fun i => (i, (o.after.toList.filter (Region.binds .any)).map Edge.on)).bind planOf).map .dreg else none
  | .seq a b => do pure (.seq (← strip P N a) (← strip P N b))
  | .cond c a b => do pure (.cond (← arg c) (← strip P N a) (← strip P N b))
  | .block id c => (strip P N c).map (.block id)
  | .loop c => (strip P N c).map .loop
  | .exit id => some (.exit id)
  | .ret => some .ret
  | _ => none
def stripF (P : Program) (f : FuncId) : Option HFunc := do
  let fn ← P.funcs[f]?
  let b ← fn.body
  if fn.name == "runtime.NumGoroutine" then none else
  let rs ← fn.results.toList.mapM fun | .tmp t => some (t, none) | .cell a t => do
    let ag ← aggT P t
    let n ← szT P t
    pure (a, some (ag, n))
  pure { np := fn.params.size, ntmps := fn.ntmps, results := rs, body := ← strip P fn.ntmps b }
/-! ### what the code asks for -/
abbrev Env := List (Nat × HV)
def lk : Env → Nat → Option HV
  | [], _ => none
  | (m, v) :: e, n => if m = n then some v else lk e n
def ev (env : Env) : HArg → Option HV
  | .t n => lk env n
  | .c v => some v
def evs (env : Env) : List HArg → Option (List HV)
  | [] => some []
  | x :: xs => match ev env x, evs env xs with
    | some v, some vs => some (v :: vs)
    | _, _ => none
def putE (env : Env) (d : Option Nat) (v : HV) : Env :=
  match d with
  | some d => (d, v) :: env
  | none => env
def cn1 (st : St) : HV → HV × St
  | .nils => (.sl [], st)
  | .own id n => match st[id]? with
    | some (.arr sz l _) => if l.length = n then (.sl l, st.set id (.arr sz l false)) else (.own id n, st)
    | _ => (.own id n, st)
  | h => (h, st)
def cnL (st : St) : List HV → List HV × St
  | [] => ([], st)
  | h :: hs => let a := cn1 st h
    let b := cnL a.2 hs
    (a.1 :: b.1, b.2)
def cnA (fz : Bool) (st : St) (h : HV) : HV × St :=
  if fz then (match h with
    | .agg cs => let a := cnL st cs
      (.agg a.1, a.2)
    | h => cn1 st h) else (h, st)
def cnLA (st : St) : List HV → List HV × St
  | [] => ([], st)
  | h :: hs => let a := cnA true st h
    let b := cnLA a.2 hs
    (a.1 :: b.1, b.2)
def ld (ag : Bool) (off n : Nat) (x : HV) : Option HV :=
  if ag then (if off = 0 ∧ x.isAgg = true ∧ x.cells.length = n then some x else if off + n ≤ x.cells.length then some (.agg ((x.cells.drop off).take n)) else none)
  else x.cells[off]?
def sto (x : HV) (off : Nat) (v : HV) : HV :=
  if off = 0 ∧ v.cells.length = x.cells.length ∧ (v.isAgg || !x.isAgg) = true then v else .agg (x.cells.take off ++ v.cells ++ x.cells.drop (off + v.cells.length))
def items : HO → Option (List HV)
  | .box v => some [v]
  | .arr _ l _ => some l
  | .dead => none
def setItem : HO → Nat → HV → HO
  | .box _, _, v => .box v
  | .arr sz l m, i, v => .arr sz (l.set i v) m
  | .dead, _, _ => .dead
def fillC (z : List HV) : List (Nat × Nat × HV) → Option (List HV)
  | [] => some z
  | (off, sz, v) :: r => if v.cells.length = sz ∧ off + sz ≤ z.length then fillC (z.take off ++ v.cells ++ z.drop (off + sz)) r else none
def intCmpF (op : BinOp) (a b : Int) : Option Bool :=
  match op with
  | .eql => some (decide (a = b))
  | .neq => some (!decide (a = b))
  | .lss => some (decide (a < b))
  | .leq => some (decide (a ≤ b))
  | .gtr => some (decide (b < a))
  | .geq => some (decide (b ≤ a))
  | _ => none
def eqC : Nat → HV → HV → Option Bool
  | 0, .int k a, .int k' b => if k = k' then some (decide (a = b)) else none
  | 1, .bool a, .bool b => some (a == b)
  | 2, .str a, .str b => some (decide (a = b))
  | _, _, _ => none
def eqL : List Nat → List HV → List HV → Option Bool
  | [], [], [] => some true
  | k :: l, a :: r, b :: s => match eqC k a b, eqL l r s with
    | some x, some y => some (x && y)
    | _, _ => none
  | _, _, _ => none
def abinF (ks : List Nat) (ne : Bool) : HV → HV → Option HV
  | .agg cs, .agg ds => (eqL ks cs ds).map fun b => .bool (b != ne)
  | _, _ => none
def andI (k : IntKind) (a b : Int) : Int := k.wrap (BitVec.ofInt k.bits a &&& BitVec.ofInt k.bits b).toNat
def orI (k : IntKind) (a b : Int) : Int := k.wrap (BitVec.ofInt k.bits a ||| BitVec.ofInt k.bits b).toNat
def xorI (k : IntKind) (a b : Int) : Int := k.wrap (BitVec.ofInt k.bits a ^^^ BitVec.ofInt k.bits b).toNat
def shlI (k : IntKind) (a b : Int) : Int := k.wrap (a * 2 ^ (min b.toNat k.bits))
def shrI (k : IntKind) (a b : Int) : Int := a.fdiv (2 ^ (min b.toNat k.bits))
def shftF (op : BinOp) : HV → HV → Option HV
  | .int k a, .int _ b => if 0 ≤ b then (match op with
      | .shl => some (.int k (shlI k a b))
      | .shr => some (.int k (shrI k a b))
      | _ => none) else none
  | _, _ => none
def binF (op : BinOp) : HV → HV → Option HV
  | .int k a, .int k' b => if k = k' then (match op with
      | .and => some (.int k (andI k a b))
      | .or => some (.int k (orI k a b))
      | .xor => some (.int k (xorI k a b))
      | .add => some (.int k (k.wrap (a + b)))
      | .sub => some (.int k (k.wrap (a - b)))
      | .mul => some (.int k (k.wrap (a * b)))
      | .rem => if b = 0 then none else some (.int k (a.tmod b))
      | .quo => if b = 0 then none else some (.int k (k.wrap (a.tdiv b)))
      | _ => (intCmpF op a b).map .bool) else none
  | .str a, .str b => (match op with
      | .add => if a.size + b.size ≤ lim then some (.str (a ++ b)) else none
      | .eql => some (.bool (decide (a = b)))
      | .neq => some (.bool (!decide (a = b)))
      | .lss => some (.bool (Op.bytesLess a.toList b.toList))
      | .geq => some (.bool (!Op.bytesLess a.toList b.toList))
      | .leq => some (.bool (Op.bytesLess a.toList b.toList || decide (a = b)))
      | .gtr => some (.bool (!(Op.bytesLess a.toList b.toList || decide (a = b))))
      | _ => none)
  | _, _ => none
def bbinF (op : BinOp) : HV → HV → Option HV
  | .bool a, .bool b => (match op with
      | .eql => some (.bool (a == b))
      | .neq => some (.bool (!(a == b)))
      | _ => none)
  | _, _ => none
def isNilp : HV → Option Bool
  | .nilp => some true
  | .ptr _ _ _ _ => some false
  | .eptr _ _ _ _ => some false
  | _ => none
def pbinF (op : BinOp) : HV → HV → Option HV
  | x, .nilp => match isNilp x with
    | some b => (match op with
      | .eql => some (.bool b)
      | .neq => some (.bool (!b))
      | _ => none)
    | none => none
  | _, _ => none
def elemsOf (st : St) : HV → Option (List HV)
  | .nils => some []
  | .sl l => some l
  | .own id n => match st[id]? with
    | some (.arr _ l _) => if l.length = n then some l else none
    | _ => none
  | _ => none
def bytesF : List HV → Option (List Int)
  | [] => some []
  | .int .u8 n :: r => (bytesF r).map (n :: ·)
  | _ => none
def bsOf (l : List Int) : ByteArray := l.foldl (fun r n => r.push (UInt8.ofNat n.toNat)) ByteArray.empty
def bstrF (st : St) (v : HV) : Option HV :=
  match elemsOf st v with
  | some l => (bytesF l).map fun ns => .str (bsOf ns)
  | none => none
def Callable (P : Program) (f : FuncId) : Prop := ∃ fn, P.funcs[f]? = some fn ∧ fn.body.isSome = true ∧ (fn.name == "runtime.NumGoroutine") = false
def HC (P : Program) (f : FuncId) (args : List HV) (st : St) (post : HV → St → Prop) : Prop :=
  Callable P f ∧ ∀ G w vs, Rel P G st w → R G (.vals vs args) →
    Calls P f vs.toArray w fun e w' => ∃ v r st' G', e = .returned v ∧ post r st' ∧ Rel P G' st' w' ∧ R G' (.val v r) ∧ Step G w G' w'
def grow : Nat := 549755813888
def boundOf (env : Env) (d : Int) : Option HArg → Option Int
  | none => some d
  | some x => match ev env x with
    | some (.int _ i) => some i
    | _ => none
def zf1 : HV → HV
  | .nils => .sl []
  | h => h
def zfz (fz : Bool) (z : HV) : HV := if fz then (match z with
  | .agg cs => .agg (cs.map zf1)
  | h => zf1 h) else z
def vcOp (P : Program) (fz : Bool) (env : Env) (st : St) (op : HOp) (k : HV → St → Prop) : Prop :=
  match op with
  | .mov x => match ev env x with
    | some v => k v st
    | none => False
  | .pick c a b => match ev env c, ev env a, ev env b with
    | some (.bool t), some x, some y => k (if t then x else y) st
    | _, _, _ => False
  | .alloc z => match z with
    | .tup _ => False
    | z => k (.ptr st.length 1 0 0) (st ++ [.box z])
  | .box x => match ev env x with
    | some (.tup _) => False
    | some v => k (.ptr st.length 1 0 0) (st ++ [.box v])
    | none => False
  | .build z parts => match evs env (parts.map (·.2.2)) with
    | some vs => let a := cnL' fz st vs
      match fillC z ((parts.zip a.1).map fun p => (p.1.1, p.1.2.1, p.2)) with
      | some cs => (∀ v ∈ a.1, ∀ l, v ≠ .tup l) ∧ k (.agg cs) a.2
      | none => False
    | none => False
  | .bslice sz n z parts => match evs env (parts.map (·.2)) with
    | some vs => let a := cnL' fz st vs
      parts.map (·.1) = List.range n ∧ (∀ v ∈ a.1, ∀ l, v ≠ .tup l) ∧ (∀ v ∈ a.1, v.cells.length = sz) ∧ z.length = sz ∧ 0 < sz ∧ n * sz ≤ 16777216 ∧ k (.own a.2.length n) (a.2 ++ [.arr sz a.1 true])
    | none => False
  | .load ag n a => match ev env a with
    | some (.ptr id m i off) => match (st[id]?).bind items with
      | some l => l.length = m ∧ ∃ x, l[i]? = some x ∧ ∃ h, ld ag off n x = some h ∧ k (if ag then (cnA fz st h).1 else h) (if ag then (cnA fz st h).2 else st)
      | none => False
    | some (.eptr l sz i off) => ∃ x, l[i]? = some x ∧ x.cells.length = sz ∧ ∃ h, ld ag off n x = some h ∧ k h st
    | _ => False
  | .store n a x => match ev env a, ev env x with
    | some (.ptr id m i off), some v => match st[id]? with
      | some o => match o.live with
        | some (l, mu) => mu = true ∧ l.length = m ∧ v.cells.length = n ∧ (∀ l, v ≠ .tup l) ∧ ∃ y, l[i]? = some y ∧ off + n ≤ y.cells.length ∧ k undefH (st.set id (setItem o i (sto y off v)))
        | none => False
      | none => False
    | _, _ => False
  | .nilchk x => match ev env x with
    | some (.ptr id n i off) => k (.ptr id n i off) st
    | some (.eptr l sz i off) => k (.eptr l sz i off) st
    | _ => False
  | .bin op x y => match ev env x, ev env y with
    | some a, some b => match binF op a b with
      | some r => k r st
      | none => False
    | _, _ => False
  | .bbin op x y => match ev env x, ev env y with
    | some a, some b => match bbinF op a b with
      | some r => k r st
      | none => False
    | _, _ => False
  | .pbin op x y => match ev env x, ev env y with
    | some a, some b => match pbinF op a b with
      | some r => k r st
      | none => False
    | _, _ => False
  | .not x => match ev env x with
    | some (.bool b) => k (.bool (!b)) st
    | _ => False
  | .neg x => match ev env x with
    | some (.int kd a) => k (.int kd (kd.wrap (0 - a))) st
    | _ => False
  | .conv kd x => match ev env x with
    | some (.int _ a) => k (.int kd (kd.wrap a)) st
    | _ => False
  | .mkfn f first caps => match evs env first, evs env caps with
    | some fs, some cs => k (.fn f fs cs) st
    | _, _ => False
  | .mkslice sz bytes z n c => match ev env n, ev env c with
    | some (.int _ a), some (.int _ b) => a = b ∧ 0 ≤ a ∧ a ≤ 1099511627776 ∧ bytes ≤ 256 ∧ z.cells.length = sz ∧ (∀ l, z ≠ .tup l) ∧ k (.own st.length a.toNat) (st ++ [.arr sz (List.replicate a.toNat (zfz fz z)) true])
    | _, _ => False
  | .substr x lo hi => match ev env x with
    | some (.str s) => match boundOf env 0 lo, boundOf env s.size hi with
      | some l, some h => 0 ≤ l ∧ l ≤ h ∧ h ≤ s.size ∧ k (.str (s.extract l.toNat h.toNat)) st
      | _, _ => False
    | _ => False
  | .slice sz x lo hi mx => match ev env x with
    | some v => match elemsOf st v with
      | some l => match boundOf env 0 lo, boundOf env l.length hi with
        | some a, some b => match mx with
          | none => 0 ≤ a ∧ a ≤ b ∧ b ≤ l.length ∧ (match v with
              | .own id n => match st[id]? with
                | some (.arr sz' _ false) => sz' = sz ∧ k (.sl ((l.take b.toNat).drop a.toNat)) st
                | some (.arr sz' _ true) => if lo.isSome then sz' = sz ∧ hi = none ∧ k (.otl id n a.toNat) st else a = 0 ∧ k (.own st.length b.toNat) (st.set id .dead ++ [.arr sz' (l.take b.toNat) true])
                | _ => False
              | .nils => k .nils st
              | _ => (∀ y ∈ l, y.cells.length = sz) ∧ k (.sl ((l.take b.toNat).drop a.toNat)) st)
          | some m => hi.isSome = true ∧ a = b ∧ 0 ≤ a ∧ b ≤ l.length ∧ boundOf env 0 (some m) = some b ∧ k .nils st
        | _, _ => False
      | none => False
    | none => False
  | .faddr off a => match ev env a with
    | some (.ptr id n i o) => k (.ptr id n i (o + off)) st
    | some (.eptr l sz i o) => k (.eptr l sz i (o + off)) st
    | _ => False
  | .fld ag off n x => match ev env x with
    | some (.agg cs) => match ld ag off n (.agg cs) with
      | some h => k h st
      | none => False
    | _ => False
  | .iaddr sz x i => match ev env x, ev env i with
    | some (.sl l), some (.int _ j) => 0 ≤ j ∧ ∃ y, l[j.toNat]? = some y ∧ y.cells.length = sz ∧ k (.eptr l sz j.toNat 0) st
    | some (.own id n), some (.int _ j) => match st[id]? with
      | some (.arr sz' l _) => sz' = sz ∧ l.length = n ∧ 0 ≤ j ∧ j < n ∧ k (.ptr id n j.toNat 0) st
      | _ => False
    | _, _ => False
  | .idx x i => match ev env x, ev env i with
    | some (.str s), some (.int _ j) => 0 ≤ j ∧ ∃ b, s.data[j.toNat]? = some b ∧ k (.int .u8 b.toNat) st
    | _, _ => False
  | .ext x i => match ev env x with
    | some (.tup l) => match l[i]? with
      | some v => k v st
      | none => False
    | _ => False
  | .len x => match ev env x with
    | some (.sl l) => l.length ≤ lim → k (.int .i64 l.length) st
    | some .nils => k (.int .i64 0) st
    | some (.own id n) => match st[id]? with
      | some (.arr _ l _) => l.length = n ∧ (n ≤ lim → k (.int .i64 n) st)
      | _ => False
    | _ => False
  | .cap x => match ev env x with
    | some .nils => k (.int .i64 0) st
    | some (.own id n) => match st[id]? with
      | some (.arr _ l true) => l.length = n ∧ ∀ c : Nat, n ≤ c → k (.int .i64 c) st
      | _ => False
    | _ => False
  | .slen x => match ev env x with
    | some (.str s) => s.size ≤ lim → k (.int .i64 s.size) st
    | _ => False
  | .snil ne x => match ev env x with
    | some .nils => ∀ b : Bool, k (.bool b) st
    | some (.sl l) => ∀ b : Bool, (l ≠ [] → b = ne) → k (.bool b) st
    | some (.own id n) => match st[id]? with
      | some (.arr _ l _) => l.length = n ∧ ∀ b : Bool, (l ≠ [] → b = ne) → k (.bool b) st
      | _ => False
    | _ => False
  | .bstr x => match ev env x with
    | some v => match bstrF st v with
      | some h => k h st
      | none => False
    | none => False
  | .shft op x y => match ev env x, ev env y with
    | some a, some b => match shftF op a b with
      | some r => k r st
      | none => False
    | _, _ => False
  | .abin n ne x y => match ev env x, ev env y with
    | some a, some b => match abinF n ne a b with
      | some r => k r st
      | none => False
    | _, _ => False
  | .clr sz z x => match ev env x with
    | some (.otl id n i) => match st[id]? with
      | some (.arr sz' l true) => sz' = sz ∧ l.length = n ∧ z.cells.length = sz ∧ (∀ l, z ≠ .tup l) ∧ k undefH (st.set id (.arr sz' (l.take i ++ List.replicate (l.length - i) (zfz fz z)) true))
      | _ => False
    | _ => False
  | .bmark x => match ev env x with
    | some (.own id n) => match st[id]? with
      | some (.arr _ l true) => l.length = n ∧ l ≠ [] ∧ k (.sl l) (st.set id .dead)
      | _ => False
    | _ => False
  | .append sz bytes x y => match ev env x, ev env y with
    | some a, some b => match elemsOf st b with
      | some l2 => bytes ≤ 256 ∧ 0 < sz ∧ (∀ v ∈ l2, v.cells.length = sz) ∧ (match a with
        | .nils => if l2 = [] then (k .nils st ∨ k (.own st.length 0) (st ++ [.arr sz [] true])) else (l2.length ≤ grow ∧ k (.own st.length l2.length) (st ++ [.arr sz l2 true]))
        | .sl l => l2 = [] ∧ k (.sl l) st
        | .own id n => match st[id]? with
          | some (.arr sz' l m) => sz' = sz ∧ l.length = n ∧ (if l2 = [] then k (.own id n) st else (n + l2.length ≤ grow ∧ k (.own id (n + l2.length)) (st.set id (.arr sz (l ++ l2) m))))
          | _ => False
        | _ => False)
      | none => False
    | _, _ => False
  | .max x y => match ev env x, ev env y with
    | some (.int kd a), some (.int kd' b) => kd = kd' ∧ k (.int kd (if a ≤ b then b else a)) st
    | _, _ => False
  | .min x y => match ev env x, ev env y with
    | some (.int kd a), some (.int kd' b) => kd = kd' ∧ k (.int kd (if a ≤ b then a else b)) st
    | _, _ => False
  | .call f args => match ev env f, evs env args with
    | some (.fn g first caps), some vs => HC P g (first ++ vs ++ caps) st k
    | _, _ => False
where
  cnL' (fz : Bool) (st : St) (l : List HV) : List HV × St := if fz then cnLA st l else (l, st)
/-! ### what only looks -/
def own? : HV → Bool
  | .own _ _ => true
  | _ => false
def calm (h : HV) : Bool := h.cells.all fun c => !own? c
def tup? : HV → Bool
  | .tup _ => true
  | _ => false
def qfz (fz : Bool) : HOp → Bool
  | .build _ _ => false
  | _ => fz
def qv (fz : Bool) (env : Env) (st : St) (op : HOp) : Option HV :=
  match op with
  | .mov x => ev env x
  | .pick c a b => match ev env c, ev env a, ev env b with
    | some (.bool t), some x, some y => some (if t then x else y)
    | _, _, _ => none
  | .build z parts => match evs env (parts.map (·.2.2)) with
    | some vs => if vs.all (fun v => !tup? v) then (match fillC z ((parts.zip vs).map fun p => (p.1.1, p.1.2.1, p.2)) with
      | some cs => some (.agg cs)
      | none => none) else none
    | none => none
  | .load ag n a => match ev env a with
    | some (.ptr id m i off) => match (st[id]?).bind items with
      | some l => if l.length = m then (match l[i]? with
        | some x => match ld ag off n x with
          | some h => if ag then (if calm h then some (cnA fz st h).1 else none) else some h
          | none => none
        | none => none) else none
      | none => none
    | some (.eptr l sz i off) => match l[i]? with
      | some x => if x.cells.length = sz then ld ag off n x else none
      | none => none
    | _ => none
  | .nilchk x => match ev env x with
    | some (.ptr id n i off) => some (.ptr id n i off)
    | some (.eptr l sz i off) => some (.eptr l sz i off)
    | _ => none
  | .bin op x y => match ev env x, ev env y with
    | some a, some b => binF op a b
    | _, _ => none
  | .shft op x y => match ev env x, ev env y with
    | some a, some b => shftF op a b
    | _, _ => none
  | .abin n ne x y => match ev env x, ev env y with
    | some a, some b => abinF n ne a b
    | _, _ => none
  | .bbin op x y => match ev env x, ev env y with
    | some a, some b => bbinF op a b
    | _, _ => none
  | .pbin op x y => match ev env x, ev env y with
    | some a, some b => pbinF op a b
    | _, _ => none
  | .not x => match ev env x with
    | some (.bool b) => some (.bool (!b))
    | _ => none
  | .neg x => match ev env x with
    | some (.int kd a) => some (.int kd (kd.wrap (0 - a)))
    | _ => none
  | .conv kd x => match ev env x with
    | some (.int _ a) => some (.int kd (kd.wrap a))
    | _ => none
  | .mkfn f first caps => match evs env first, evs env caps with
    | some fs, some cs => some (.fn f fs cs)
    | _, _ => none
  | .substr x lo hi => match ev env x with
    | some (.str s) => match boundOf env 0 lo, boundOf env s.size hi with
      | some l, some h => if 0 ≤ l ∧ l ≤ h ∧ h ≤ s.size then some (.str (s.extract l.toNat h.toNat)) else none
      | _, _ => none
    | _ => none
  | .faddr off a => match ev env a with
    | some (.ptr id n i o) => some (.ptr id n i (o + off))
    | some (.eptr l sz i o) => some (.eptr l sz i (o + off))
    | _ => none
  | .fld ag off n x => match ev env x with
    | some (.agg cs) => ld ag off n (.agg cs)
    | _ => none
  | .iaddr sz x i => match ev env x, ev env i with
    | some (.sl l), some (.int _ j) => if 0 ≤ j then (match l[j.toNat]? with
      | some y => if y.cells.length = sz then some (.eptr l sz j.toNat 0) else none
      | none => none) else none
    | some (.own id n), some (.int _ j) => match st[id]? with
      | some (.arr sz' l _) => if sz' = sz ∧ l.length = n ∧ 0 ≤ j ∧ j < n then some (.ptr id n j.toNat 0) else none
      | _ => none
    | _, _ => none
  | .idx x i => match ev env x, ev env i with
    | some (.str s), some (.int _ j) => if 0 ≤ j then (match s.data[j.toNat]? with
      | some b => some (.int .u8 b.toNat)
      | none => none) else none
    | _, _ => none
  | .ext x i => match ev env x with
    | some (.tup l) => l[i]?
    | _ => none
  | .len x => match ev env x with
    | some (.sl l) => some (.int .i64 l.length)
    | some .nils => some (.int .i64 0)
    | some (.own id n) => match st[id]? with
      | some (.arr _ l _) => if l.length = n then some (.int .i64 n) else none
      | _ => none
    | _ => none
  | .slen x => match ev env x with
    | some (.str s) => some (.int .i64 s.size)
    | _ => none
  | .bstr x => match ev env x with
    | some v => bstrF st v
    | none => none
  | .max x y => match ev env x, ev env y with
    | some (.int kd a), some (.int kd' b) => if kd = kd' then some (.int kd (if a ≤ b then b else a)) else none
    | _, _ => none
  | .min x y => match ev env x, ev env y with
    | some (.int kd a), some (.int kd' b) => if kd = kd' then some (.int kd (if a ≤ b then a else b)) else none
    | _, _ => none
  | _ => none
def eff (fz : Bool) (env : Env) (st : St) (i : HIns) : Option HV :=
  match i.guard with
  | none => qv fz env st i.op
  | some (s, b) => match lk env s with
    | some (.bool t) => if t = b then qv fz env st i.op else some undefH
    | some (.tup []) => some undefH
    | _ => none
def vcIns (P : Program) (fz : Bool) (env : Env) (st : St) (i : HIns) (k : HV → St → Prop) : Prop :=
  match i.guard with
  | none => vcOp P fz env st i.op k
  | some (s, b) => match lk env s with
    | some (.bool t) => (t = b → vcOp P fz env st i.op k) ∧ (t = (!b) → k undefH st)
    | some (.tup []) => k undefH st
    | _ => False
def chkAll (fz : Bool) (env : Env) (st : St) : List HIns → Prop
  | [] => True
  | i :: r => (match i.dst with
    | some d => eff fz env st i = lk env d
    | none => ∃ h, eff fz env st i = some h) ∧ chkAll fz env st r
def dvc (P : Program) (fz : Bool) : DPlan → Env → St → (Env → St → Prop) → Prop
  | .done, env, st, k => k env st
  | .none, _, _, _ => True
  | .q i r, env, st, k => ∃ h, eff fz env st i = some h ∧ dvc P fz r (putE env i.dst h) st k
  | .l i c r m, env, st, k => (vcIns P fz env st i fun h st' => chkAll fz (putE env i.dst h) st' c ∧ dvc P fz r (putE env i.dst h) st' k) ∧ dvc P fz m env st k
end HL
