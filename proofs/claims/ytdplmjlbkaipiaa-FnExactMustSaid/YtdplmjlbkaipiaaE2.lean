/- From the program as it is given to the small machine's operations: types are looked up once. -/
import Derived.Test.YtdplmjlbkaipiaaE1
namespace Go.Proofs.Ytdplmjlbkaipiaa.Ev
set_option linter.all false
open Go

def constOk : Value → Bool
  | .agg cs => cs.toList.all scal
  | .tuple cs => cs.isEmpty
  | v => scal v

def cx : Operand → Option X
  | .tmp t => some (.t t)
  | .const v => if constOk v then some (.c v) else none
  | .func f => some (.f f)
  | .global _ => none

def cxs : List Operand → Option (List X)
  | [] => some []
  | x :: xs =>
    match cx x, cxs xs with
    | some v, some vs => some (v :: vs)
    | _, _ => none

def cxo : Option Operand → Option (Option X)
  | none => some none
  | some x => (cx x).map some

def isAggD : TypeDesc → Bool
  | .struct _ | .array _ _ => true
  | _ => false

/-- A type's size in cells, and whether it is a record or an array. -/
def tyI (P : Program) (t : TypeId) : Option (Nat × Bool) :=
  match P.info? t, P.underlying t with
  | some i, some d => if isAggD d then some (i.size, true) else if i.size = 1 then some (1, false) else none
  | _, _ => none

def zeroI (P : Program) (t : TypeId) : Option (List Value) :=
  match P.info? t with
  | some i =>
    match i.zero with
    | some z => if (vcells z).length = i.size ∧ (vcells z).all scal = true ∧ 0 < i.size then some (vcells z) else none
    | none => none
  | none => none

/-- A record of plain fields, one cell each, in line: their kinds. -/
def flatFields (P : Program) : List Field → Nat → Option (List Nat)
  | [], _ => some []
  | f :: fs, k =>
    if f.offset = k ∧ f.name ≠ "_" then
      match P.underlying f.type, flatFields P fs (k + 1) with
      | some (.int _), some ks => some (0 :: ks)
      | some .bool, some ks => some (1 :: ks)
      | some .string, some ks => some (2 :: ks)
      | _, _ => none
    else none

def partsS (P : Program) (fs : Array Field) : List (Nat × Operand) → Option (List (Nat × Nat × X))
  | [] => some []
  | p :: ps =>
    match fs[p.1]?, cx p.2, partsS P fs ps with
    | some f, some x, some r =>
      match P.info? f.type with
      | some i => some ((f.offset, i.size, x) :: r)
      | none => none
    | _, _, _ => none

def partsA (n : Nat) : List (Nat × Operand) → Option (List (Nat × Nat × X))
  | [] => some []
  | p :: ps =>
    match cx p.2, partsA n ps with
    | some x, some r => some ((p.1 * n, n, x) :: r)
    | _, _ => none

def partsOf (P : Program) (t : TypeId) (ps : List (Nat × Operand)) : Option (List (Nat × Nat × X)) :=
  match P.underlying t with
  | some (.struct fs) => partsS P fs ps
  | some (.array _ e) =>
    match P.info? e with
    | some i => partsA i.size ps
    | none => none
  | _ => none

def fieldsOk (P : Program) (fs : Array Field) : Bool := fs.toList.all fun f => (P.info? f.type).isSome

def compK0 (P : Program) (hv : Nat → Bool) (dst : Option Nat) (o : Oper) : Option CK :=
  match o.op with
  | .move x => do pure (.mov (← cx x))
  | .assign x => do pure (.mov (← cx x))
  | .pick c a b => do pure (.pick (← cx c) (← cx a) (← cx b))
  | .alloc t => do
    let z ← zeroI P t
    let d ← dst
    pure (if hv d then .newV z else .newO z)
  | .box t x => do
    let d ← dst
    let x ← cx x
    pure (if hv d then .boxV x else .boxO x)
  | .build t ps => do
    let i ← P.info? t
    let z ← i.zero
    match z, P.underlying t with
    | .agg cs, some (.struct fs) => if fieldsOk P fs && cs.toList.all scal then do pure (.build cs.toList (← partsOf P t ps.toList)) else none
    | .agg cs, some (.array _ _) => if cs.toList.all scal then do pure (.build cs.toList (← partsOf P t ps.toList)) else none
    | _, _ => none
  | .buildSlice t len ps => do
    let .slice e ← P.underlying t | none
    let z ← zeroI P e
    let d ← dst
    let xs ← ps.toList.mapM fun p => do pure (p.1, ← cx p.2)
    if len * z.length ≤ 16777216 then
      pure (if hv d then .mkV len z.length z xs else .mkO len z.length z xs)
    else none
  | .load t x => do
    let (n, agg) ← tyI P t
    pure (.load n agg (← cx x))
  | .store t x v =>
    match dst with
    | none => do
      let (n, _) ← tyI P t
      pure (.store n (← cx x) (← cx v))
    | some _ => none
  | .nilCheck x => do pure (.nilc (← cx x))
  | .binOp op t x y _ => do
    let x ← cx x
    let y ← cx y
    match P.underlying t with
    | some .bool =>
      match op with
      | .eql => pure (.beq false x y)
      | .neq => pure (.beq true x y)
      | _ => none
    | some (.struct fs) =>
      match flatFields P fs.toList 0 with
      | some ks =>
        if P.stoodInHeld t || P.eqGuardType P.depth t then none else
        match op with
        | .eql => pure (.aeq false ks x y)
        | .neq => pure (.aeq true ks x y)
        | _ => none
      | none => none
    | some (.int _) => pure (.bin op x y)
    | some .string => pure (.bin op x y)
    | _ => none
  | .unOp op _ x => do pure (.un op (← cx x))
  | .convert s d x => do
    let x ← cx x
    match P.underlying s, P.underlying d with
    | some (.int _), some (.int k) => pure (.toInt k x)
    | some .string, some .string => pure (.str x)
    | some .string, some (.slice e) =>
      match P.underlying e, P.info? e with
      | some (.int .u8), some i => if i.size = 1 then pure (.s2b 1 x) else none
      | _, _ => none
    | some (.slice e), some .string =>
      match P.underlying e, P.info? e with
      | some (.int .u8), some i => if i.size = 1 then pure (.b2s x) else none
      | _, _ => none
    | _, _ => none
  | .makeFunc (.func f) first caps => if first.isEmpty then do pure (.fn f (← cxs caps.toList)) else none
  | .makeSlice t l c => do
    let .slice e ← P.underlying t | none
    let z ← zeroI P e
    let i ← P.info? e
    pure (.makeS z.length i.bytes z (← cx l) (← cx c))
  | .slice t x lo hi mx =>
    if mx.isSome then none else do
    let x ← cx x
    let lo ← cxo lo
    let hi ← cxo hi
    match P.underlying t with
    | some .string => pure (.slcS x lo hi)
    | some (.slice e) => do
      let i ← P.info? e
      if i.size = 0 then none else pure (.slc i.size x lo hi)
    | _ => none
  | .fieldAddr t x f => do
    let .struct fs ← P.underlying t | none
    let f ← fs[f]?
    let i ← P.info? f.type
    if i.size = 0 then none else pure (.fadr f.offset (← cx x))
  | .field t x f => do
    let .struct fs ← P.underlying t | none
    let f ← fs[f]?
    let (n, agg) ← tyI P f.type
    pure (.fld f.offset n agg (← cx x))
  | .indexAddr t x ix => do
    let x ← cx x
    let ix ← cx ix
    match P.underlying t with
    | some (.slice e) => do
      let i ← P.info? e
      pure (.iadr i.size x ix)
    | some (.array n e) => do
      let i ← P.info? e
      pure (.iadrA n i.size x ix)
    | _ => none
  | .index t x ix => do
    match P.underlying t with
    | some .string => pure (.idx (← cx x) (← cx ix))
    | _ => none
  | .extract x i => do pure (.ext (← cx x) i)
  | .call c =>
    match c.callee with
    | .value (.func f) => do
      let fn ← P.funcs[f]?
      if fn.body.isSome && !(fn.name == "runtime.NumGoroutine") then pure (.call f (← cxs c.args.toList)) else none
    | .value x => do pure (.callV (← cx x) (← cxs c.args.toList))
    | .builtin b => do
      let t ← c.argTypes[0]?
      let d ← P.underlying t
      let xs ← cxs c.args.toList
      match b, d, xs with
      | .len, .string, [x] => pure (.lenT x)
      | .len, .slice _, [x] => pure (.lenS x)
      | .max, .int _, [x, y] => pure (.mx x y)
      | .min, .int _, [x, y] => pure (.mn x y)
      | .append, .slice e, [x, y] => do
        let t2 ← c.argTypes[1]?
        let .slice _ ← P.underlying t2 | none
        let i ← P.info? e
        let z ← zeroI P e
        if i.bytes = 0 ∨ z.length ≠ i.size then none else pure (.app i.size i.bytes x y)
      | .copy, .slice e, [x, y] => do
        let i ← P.info? e
        pure (.cpy i.size x y)
      | .clear, .slice e, [x] => do
        let z ← zeroI P e
        pure (.clr z.length z x)
      | _, _, _ => none
    | _ => none
  | _ => none

def CK.isCall : CK → Bool
  | .call .. | .callV .. => true
  | _ => false

def notCall (k : Option CK) : Option CK :=
  match k with
  | some k => if k.isCall = true then none else some k
  | none => none

def compCall (P : Program) (f : FuncId) (args : List Operand) : Option CK :=
  match P.funcs[f]?, cxs args with
  | some fn, some xs => if fn.body.isSome = true ∧ (fn.name == "runtime.NumGoroutine") = false then some (.call f xs) else none
  | _, _ => none

def compCallV (x : Operand) (args : List Operand) : Option CK :=
  match cx x, cxs args with
  | some x, some xs => some (.callV x xs)
  | _, _ => none

def compK (P : Program) (hv : Nat → Bool) (dst : Option Nat) (o : Oper) : Option CK :=
  match o.op with
  | .call c =>
    match c.callee with
    | .value (.func f) => compCall P f c.args.toList
    | .value x => compCallV x c.args.toList
    | _ => notCall (compK0 P hv dst o)
  | _ => notCall (compK0 P hv dst o)

def edgeOk (e : Edge) : Bool :=
  match e.ground with
  | .data | .chain | .guard | .phase => true
  | _ => false

/-- What stands ahead of each operation, by way of others too. -/
def pres : List Oper → List (List Nat) → List (List Nat)
  | [], acc => acc
  | o :: os, acc => pres os (acc ++ [((o.after.toList.filter edgeOk).flatMap fun e => e.on :: acc.getD e.on []).eraseDups])

def guardOf (ops : Array Oper) (o : Oper) : Option (Option (Nat × Bool)) :=
  match o.guard with
  | none => some none
  | some (j, b) =>
    match ops[j]? with
    | some p =>
      match p.dst with
      | some t => some (some (t, b))
      | none => none
    | none => none

def dstOk (nt : Nat) (d : Option Tmp) : Bool :=
  match d with
  | some d => decide (d < nt)
  | none => true

def compO (P : Program) (hv : Nat → Bool) (nt : Nat) (ops : Array Oper) (draw : Bool) (pre : List (List Nat)) (i : Nat) (o : Oper) : Option CO :=
  match compK P hv o.dst o, guardOf ops o with
  | some k, some g =>
    if (draw = true → o.after.toList.all (fun e => !edgeOk e || decide (e.on < i)) = true) ∧ dstOk nt o.dst = true then
      some { dst := o.dst, g := g, k := k, ix := i, pre := if draw = true then pre.getD i [] else [] }
    else none
  | _, _ => none

def compOs (P : Program) (hv : Nat → Bool) (nt : Nat) (ops : Array Oper) (draw : Bool) (pre : List (List Nat)) : Nat → List Oper → Option (List CO)
  | _, [] => some []
  | i, o :: os =>
    match compO P hv nt ops draw pre i o, compOs P hv nt ops draw pre (i + 1) os with
    | some c, some cs => some (c :: cs)
    | _, _ => none

def compC (P : Program) (hv : Nat → Bool) (nt : Nat) : Code → Option CC
  | .skip => some .skip
  | .region _ ops draw =>
    match compOs P hv nt ops draw (if draw = true then pres ops.toList [] else []) 0 ops.toList with
    | some cs => some (.reg draw cs)
    | none => none
  | .seq a b =>
    match compC P hv nt a, compC P hv nt b with
    | some a, some b => some (.seq a b)
    | _, _ => none
  | .cond c a b =>
    match cx c, compC P hv nt a, compC P hv nt b with
    | some c, some a, some b => some (.cond c a b)
    | _, _, _ => none
  | .block id c =>
    match compC P hv nt c with
    | some c => some (.block id c)
    | none => none
  | .loop c =>
    match compC P hv nt c with
    | some c => some (.loop c)
    | none => none
  | .exit id => some (.exit id)
  | .ret => some .ret
  | _ => none

def compR (P : Program) : List ResultVar → Option (List RV)
  | [] => some []
  | .tmp t :: rs =>
    match compR P rs with
    | some r => some (.t t :: r)
    | none => none
  | .cell a t :: rs =>
    match tyI P t, compR P rs with
    | some (n, agg), some r => some (.cell a n agg :: r)
    | _, _ => none

def compF (P : Program) (hv : Nat → Bool) (fn : Func) : Option CF :=
  match fn.body with
  | none => none
  | some b =>
    match compC P hv fn.ntmps b, compR P fn.results.toList with
    | some c, some r => some { nt := fn.ntmps, body := c, res := r }
    | _, _ => none

/-- The machine's functions, of a program; which slots hold local boxes is told ahead. -/
def fnsOf (P : Program) (hv : Nat → Nat → Bool) (f : Nat) : Option CF :=
  match P.funcs[f]? with
  | some fn => if (fn.name == "runtime.NumGoroutine") = true then none else compF P (hv f) fn
  | none => none

end Go.Proofs.Ytdplmjlbkaipiaa.Ev
