/- A small machine for Go functions: values are trees of numbers, texts and headers, memory is a list of rows, local records are kept in the frame. It answers as Go does, whatever Go leaves open. -/
import Derived.Calls
import Derived.Orders
import Derived.Laws.Append
import Derived.Laws.StructEq
import Derived.Laws.BytesString
import Derived.Laws.IdiomCopy
import Derived.Laws.IdiomStrings
import Derived.Laws.Slices
import Derived.KernelRfl
namespace Go.Proofs.Ytdplmjlbkaipiaa.Ev
set_option linter.all false
open Go

/-- Memory: a row of cells by its number. -/
abbrev Hp := List (List Value)

/-- What a slot of the frame holds. -/
inductive FV where
  | val (v : Value)
  | bx (g : Nat) (cs : List Value)
  | vp (t g off : Nat)
  | vs (n : Nat) (cs : List Value)
  | junk
  deriving Inhabited

inductive X where
  | t (n : Nat)
  | c (v : Value)
  | f (n : Nat)
  deriving Inhabited

inductive CK where
  | mov (x : X)
  | pick (c a b : X)
  | bin (op : BinOp) (x y : X)
  | beq (neg : Bool) (x y : X)
  | aeq (neg : Bool) (ks : List Nat) (x y : X)
  | un (op : UnOp) (x : X)
  | toInt (k : IntKind) (x : X)
  | str (x : X)
  | s2b (esz : Nat) (x : X)
  | b2s (x : X)
  | fld (off n : Nat) (agg : Bool) (x : X)
  | idx (x i : X)
  | build (zero : List Value) (parts : List (Nat × Nat × X))
  | ext (x : X) (i : Nat)
  | fadr (off : Nat) (x : X)
  | iadr (esz : Nat) (x i : X)
  | iadrA (len esz : Nat) (x i : X)
  | load (n : Nat) (agg : Bool) (x : X)
  | store (n : Nat) (x v : X)
  | newV (zero : List Value)
  | newO (zero : List Value)
  | boxV (x : X)
  | boxO (x : X)
  | mkV (len esz : Nat) (zero : List Value) (parts : List (Nat × X))
  | mkO (len esz : Nat) (zero : List Value) (parts : List (Nat × X))
  | makeS (esz bytes : Nat) (zero : List Value) (l c : X)
  | slc (esz : Nat) (x : X) (lo hi : Option X)
  | slcS (x : X) (lo hi : Option X)
  | lenS (x : X)
  | lenT (x : X)
  | mx (x y : X)
  | mn (x y : X)
  | app (esz bytes : Nat) (x y : X)
  | cpy (esz : Nat) (x y : X)
  | clr (esz : Nat) (zero : List Value) (x : X)
  | call (f : Nat) (args : List X)
  | callV (x : X) (args : List X)
  | fn (f : Nat) (caps : List X)
  | nilc (x : X)
  deriving Inhabited

structure CO where
  dst : Option Nat
  g : Option (Nat × Bool)
  k : CK
  ix : Nat
  pre : List Nat
  deriving Inhabited

inductive CC where
  | skip
  | reg (draw : Bool) (ops : List CO)
  | seq (a b : CC)
  | cond (c : X) (a b : CC)
  | block (id : Nat) (c : CC)
  | loop (c : CC)
  | exit (id : Nat)
  | ret
  deriving Inhabited

inductive RV where
  | t (n : Nat)
  | cell (t n : Nat) (agg : Bool)
  deriving Inhabited

structure CF where
  nt : Nat
  body : CC
  res : List RV
  deriving Inhabited

inductive Ex where
  | normal
  | exit (id : Nat)
  | ret

structure St where
  ρ : Nat → FV
  gn : Nat
  H : Hp

/-- How a call may act: which rows it may write, and whether headers may go into rows that are there. -/
structure Md where
  wr : Nat → Bool
  nr : Bool

def upd (ρ : Nat → FV) (d : Option Nat) (v : FV) : Nat → FV :=
  match d with
  | none => ρ
  | some d => fun i => if i = d then v else ρ i

def ex (ρ : Nat → FV) : X → FV
  | .t n => ρ n
  | .c v => .val v
  | .f n => .val (.func (.func n) #[] #[])

def exv (ρ : Nat → FV) (x : X) : Option Value :=
  match ex ρ x with
  | .val v => some v
  | _ => none

def exvs (ρ : Nat → FV) : List X → Option (List Value)
  | [] => some []
  | x :: xs =>
    match exv ρ x, exvs ρ xs with
    | some v, some vs => some (v :: vs)
    | _, _ => none

/-- Values that hold no header and no address. -/
def scal : Value → Bool
  | .int .. | .bool _ | .string _ => true
  | .pointer none | .slice none 0 0 | .nilFunc => true
  | _ => false

def vcells : Value → List Value
  | .agg cs => cs.toList
  | v => [v]

/-- The cells of a value that may lie in memory. -/
def vc : Value → Option (List Value)
  | .tuple _ => none
  | .agg cs => some cs.toList
  | v => some [v]

def flatScal : Value → Bool
  | .agg cs => cs.toList.all scal
  | .tuple vs => vs.toList.all fun v => (vcells v).all scal
  | v => scal v

/-- Cells laid over others from a place on. -/
def spl : List Value → Nat → List Value → List Value
  | o, _, [] => o
  | o, i, c :: cs => spl (o.set i c) (i + 1) cs

def binV (op : BinOp) (x y : Value) : Option Value :=
  match op, x, y with
  | .shl, .int k a, .int _ b => if b < 0 then none else some (.int k (k.wrap (a * 2 ^ (min b.toNat k.bits))))
  | .shr, .int k a, .int _ b => if b < 0 then none else some (.int k (a.fdiv (2 ^ (min b.toNat k.bits))))
  | .add, .int k a, .int k' b => if k = k' then some (.int k (k.wrap (a + b))) else none
  | .sub, .int k a, .int k' b => if k = k' then some (.int k (k.wrap (a - b))) else none
  | .mul, .int k a, .int k' b => if k = k' then some (.int k (k.wrap (a * b))) else none
  | .quo, .int k a, .int k' b => if k = k' then if b = 0 then none else some (.int k (k.wrap (a.tdiv b))) else none
  | .rem, .int k a, .int k' b => if k = k' then if b = 0 then none else some (.int k (a.tmod b)) else none
  | .and, .int k a, .int k' b => if k = k' then some (.int k (k.wrap ((BitVec.ofInt k.bits a &&& BitVec.ofInt k.bits b).toNat))) else none
  | .or, .int k a, .int k' b => if k = k' then some (.int k (k.wrap ((BitVec.ofInt k.bits a ||| BitVec.ofInt k.bits b).toNat))) else none
  | .xor, .int k a, .int k' b => if k = k' then some (.int k (k.wrap ((BitVec.ofInt k.bits a ^^^ BitVec.ofInt k.bits b).toNat))) else none
  | .andNot, .int k a, .int k' b => if k = k' then some (.int k (k.wrap ((BitVec.ofInt k.bits a &&& ~~~ BitVec.ofInt k.bits b).toNat))) else none
  | .eql, .int k a, .int k' b => if k = k' then some (.bool (decide (a = b))) else none
  | .neq, .int k a, .int k' b => if k = k' then some (.bool (!decide (a = b))) else none
  | .lss, .int k a, .int k' b => if k = k' then some (.bool (decide (a < b))) else none
  | .leq, .int k a, .int k' b => if k = k' then some (.bool (decide (a ≤ b))) else none
  | .gtr, .int k a, .int k' b => if k = k' then some (.bool (decide (a > b))) else none
  | .geq, .int k a, .int k' b => if k = k' then some (.bool (decide (a ≥ b))) else none
  | .add, .string a, .string b => if a.size + b.size ≤ 9223372036854775807 then some (.string (a ++ b)) else none
  | .eql, .string a, .string b => some (.bool (decide (a = b)))
  | .neq, .string a, .string b => some (.bool (!decide (a = b)))
  | .lss, .string a, .string b => some (.bool (Op.bytesLess a.toList b.toList))
  | .gtr, .string a, .string b => some (.bool (!(Op.bytesLess a.toList b.toList || decide (a = b))))
  | _, _, _ => none

/-- Two plain values of one kind (0: numbers, 1: flags, 2: texts). -/
def scEq : Nat → Value → Value → Option Bool
  | 0, .int k a, .int k' b => if k = k' then some (decide (a = b)) else none
  | 1, .bool a, .bool b => some (decide (a = b))
  | 2, .string a, .string b => some (decide (a = b))
  | _, _, _ => none

def agEq : List Nat → List Value → List Value → Option Bool
  | [], [], [] => some true
  | k :: ks, a :: as, b :: bs =>
    match scEq k a b, agEq ks as bs with
    | some x, some y => some (x && y)
    | _, _ => none
  | _, _, _ => none

def unV (op : UnOp) (x : Value) : Option Value :=
  match op, x with
  | .neg, .int k n => some (.int k (k.wrap (0 - n)))
  | .not, .bool b => some (.bool !b)
  | _, _ => none

/-- Parts laid into cells: (place, length, value). -/
def fillL : List Value → List (Nat × Nat × Value) → Option (List Value)
  | cs, [] => some cs
  | cs, (off, n, v) :: rest =>
    match vc v with
    | some vs => if vs.length = n ∧ off + n ≤ cs.length then fillL (spl cs off vs) rest else none
    | none => none

def exps (ρ : Nat → FV) : List (Nat × Nat × X) → Option (List (Nat × Nat × Value))
  | [] => some []
  | (o, n, x) :: xs =>
    match exv ρ x, exps ρ xs with
    | some v, some vs => some ((o, n, v) :: vs)
    | _, _ => none

/-- A place: in a row, or in a box of the frame. -/
inductive Ad where
  | hp (id off gen : Nat)
  | box (t g off : Nat)

def adr (ρ : Nat → FV) (x : X) : Option Ad :=
  match x with
  | .t t =>
    match ρ t with
    | .bx g _ => some (.box t g 0)
    | .vp t g off => some (.box t g off)
    | .val (.pointer (some ⟨id, off, some gen⟩)) => some (.hp id off gen)
    | _ => none
  | _ => none

def Ad.fv (a : Ad) (n : Nat) : FV :=
  match a with
  | .hp id off gen => .val (.pointer (some ⟨id, off + n, some gen⟩))
  | .box t g off => .vp t g (off + n)

/-- Is the box still that one? -/
def Ad.live (ρ : Nat → FV) : Ad → Bool
  | .hp .. => true
  | .box t g _ =>
    match ρ t with
    | .bx g' _ => decide (g' = g)
    | _ => false

/-- The cells that an address lies in, and its place there. -/
def deref (s : St) : Ad → Option (List Value × Nat)
  | .hp id off gen =>
    match s.H[id]? with
    | some o => if o.length = gen then some (o, off) else none
    | none => none
  | .box t g off =>
    match s.ρ t with
    | .bx g' cs => if g' = g then some (cs, off) else none
    | _ => none

/-- A slice's header, with its row where it is still the last. -/
def rowOf (H : Hp) : Value → Option (Nat × Nat × Nat × Nat × List Value)
  | .slice (some ⟨id, off, some e⟩) len cap =>
    match H[id]? with
    | some o => if off + cap = o.length then some (id, off, e, len, o) else none
    | none => none
  | _ => none

/-- What stands behind a slice's header. -/
def srcOf (H : Hp) (esz : Nat) : FV → Option (Nat × List Value)
  | .val (.slice none 0 0) => some (0, [])
  | .val v =>
    match rowOf H v with
    | some (_, off, e, len, o) => if e = esz ∧ off + len * esz ≤ o.length then some (len, (o.drop off).take (len * esz)) else none
    | none => none
  | .vs n cs => if cs.length = n * esz then some (n, cs) else none
  | _ => none

def byteOf : Value → Option UInt8
  | .int .u8 n => some (UInt8.ofNat n.toNat)
  | _ => none

def bytesOf : List Value → Option (List UInt8)
  | [] => some []
  | c :: cs =>
    match byteOf c, bytesOf cs with
    | some b, some bs => some (b :: bs)
    | _, _ => none

def bnd (ρ : Nat → FV) (d : Int) : Option X → Option Int
  | none => some d
  | some x =>
    match exv ρ x with
    | some (.int _ n) => some n
    | _ => none

/-- How many elements a row that grows may come to hold. -/
def room : Nat := 140737488355328

def St.val (s : St) (v : Value) : Option (FV × St) := some (.val v, s)
def ofV (s : St) (v : Option Value) : Option (FV × St) :=
  match v with
  | some v => some (.val v, s)
  | none => none

def mv1 (x : FV) : Option FV :=
  match x with
  | .val v => some (.val v)
  | .vp t g off => some (.vp t g off)
  | _ => none

def movK (s : St) (x : X) : Option (FV × St) :=
  match mv1 (ex s.ρ x) with
  | some f => some (f, s)
  | none => none
def pickK (s : St) (c a b : X) : Option (FV × St) :=
  match exv s.ρ c, exv s.ρ a, exv s.ρ b with
  | some (.bool t), some a, some b => s.val (if t then a else b)
  | _, _, _ => none
def binK (s : St) (op : BinOp) (x y : X) : Option (FV × St) :=
  match exv s.ρ x, exv s.ρ y with
  | some a, some b => ofV s (binV op a b)
  | _, _ => none
def beqK (s : St) (neg : Bool) (x y : X) : Option (FV × St) :=
  match exv s.ρ x, exv s.ρ y with
  | some (.bool a), some (.bool b) => s.val (.bool (if neg then !decide (a = b) else decide (a = b)))
  | _, _ => none
def aeqK (s : St) (neg : Bool) (ks : List Nat) (x y : X) : Option (FV × St) :=
  match exv s.ρ x, exv s.ρ y with
  | some (.agg a), some (.agg b) =>
    match agEq ks a.toList b.toList with
    | some r => s.val (.bool (if neg then !r else r))
    | none => none
  | _, _ => none
def unK (s : St) (op : UnOp) (x : X) : Option (FV × St) :=
  match exv s.ρ x with
  | some a => ofV s (unV op a)
  | none => none
def toIntK (s : St) (k : IntKind) (x : X) : Option (FV × St) :=
  match exv s.ρ x with
  | some (.int _ n) => s.val (.int k (k.wrap n))
  | _ => none
def strK (s : St) (x : X) : Option (FV × St) :=
  match exv s.ρ x with
  | some (.string b) => s.val (.string b)
  | _ => none
def s2bK (s : St) (x : X) : Option (FV × St) :=
  match exv s.ρ x with
  | some (.string b) => some (.val (.slice (some ⟨s.H.length, 0, some 1⟩) b.size b.size), { s with H := s.H ++ [b.data.toList.map fun c => Value.int .u8 c.toNat] })
  | _ => none
def b2sK (s : St) (x : X) : Option (FV × St) :=
  match srcOf s.H 1 (ex s.ρ x) with
  | some (_, cs) =>
    match bytesOf cs with
    | some bs => s.val (.string ⟨bs.toArray⟩)
    | none => none
  | none => none
def fldK (s : St) (off n : Nat) (agg : Bool) (x : X) : Option (FV × St) :=
  match exv s.ρ x with
  | some (.agg cs) => if agg then s.val (.agg (cs.extract off (off + n))) else ofV s cs[off]?
  | _ => none
def idxK (s : St) (x i : X) : Option (FV × St) :=
  match exv s.ρ x, exv s.ρ i with
  | some (.string b), some (.int _ i) =>
    if 0 ≤ i then
      match b[i.toNat]? with
      | some c => s.val (.int .u8 c.toNat)
      | none => none
    else none
  | _, _ => none
def buildK (s : St) (zero : List Value) (parts : List (Nat × Nat × X)) : Option (FV × St) :=
  match exps s.ρ parts with
  | some ps =>
    match fillL zero ps with
    | some cs => s.val (.agg cs.toArray)
    | none => none
  | none => none
def extK (s : St) (x : X) (i : Nat) : Option (FV × St) :=
  match exv s.ρ x with
  | some (.tuple vs) => ofV s vs[i]?
  | _ => none
def fadrK (s : St) (off : Nat) (x : X) : Option (FV × St) :=
  match adr s.ρ x with
  | some a => if a.live s.ρ = true then some (a.fv off, s) else none
  | none => none
def iadrK (s : St) (esz : Nat) (x i : X) : Option (FV × St) :=
  match exv s.ρ x, exv s.ρ i with
  | some (.slice (some ⟨id, off, some e⟩) len cap), some (.int _ i) =>
    if e = esz ∧ 0 ≤ i ∧ i < (len : Int) then some (.val (.pointer (some ⟨id, off + i.toNat * esz, some (off + cap)⟩)), s) else none
  | _, _ => none
def iadrAK (s : St) (len esz : Nat) (x i : X) : Option (FV × St) :=
  match adr s.ρ x, exv s.ρ i with
  | some a, some (.int _ i) => if a.live s.ρ = true ∧ 0 ≤ i ∧ i < (len : Int) then some (a.fv (i.toNat * esz), s) else none
  | _, _ => none
def loadK (s : St) (n : Nat) (agg : Bool) (x : X) : Option (FV × St) :=
  match adr s.ρ x with
  | some a =>
    match deref s a with
    | some (o, off) =>
      if agg then (if off + n ≤ o.length then s.val (.agg ((o.drop off).take n).toArray) else none)
      else ofV s o[off]?
    | none => none
  | none => none
def exc (ρ : Nat → FV) (x : X) : Option (List Value) :=
  match exv ρ x with
  | some v => vc v
  | none => none

def storeK (m : Md) (s : St) (n : Nat) (x v : X) : Option (FV × St) :=
  match adr s.ρ x, exc s.ρ v with
  | some a, some vs =>
    match deref s a with
    | some (o, off) =>
      if vs.length = n ∧ off + n ≤ o.length then
        match a with
        | .hp id _ _ => if m.wr id = true ∧ (m.nr = true → vs.all scal = true) then some (.junk, { s with H := s.H.set id (spl o off vs) }) else none
        | .box t g _ => some (.junk, { s with ρ := upd s.ρ (some t) (.bx g (spl o off vs)) })
      else none
    | none => none
  | _, _ => none
def newVK (s : St) (zero : List Value) : Option (FV × St) := some (.bx s.gn zero, { s with gn := s.gn + 1 })
def newOK (s : St) (zero : List Value) : Option (FV × St) := some (.val (.pointer (some ⟨s.H.length, 0, some zero.length⟩)), { s with H := s.H ++ [zero] })
def boxVK (s : St) (x : X) : Option (FV × St) :=
  match exc s.ρ x with
  | some vs => newVK s vs
  | none => none
def boxOK (s : St) (x : X) : Option (FV × St) :=
  match exc s.ρ x with
  | some vs => newOK s vs
  | none => none
def zeros (n : Nat) (zero : List Value) : List Value := (List.replicate n zero).flatten
def mkCells (s : St) (len esz : Nat) (zero : List Value) (parts : List (Nat × X)) : Option (List Value) :=
  match exps s.ρ (parts.map fun p => (p.1 * esz, esz, p.2)) with
  | some ps => fillL (zeros len zero) ps
  | none => none
def mkVK (s : St) (len esz : Nat) (zero : List Value) (parts : List (Nat × X)) : Option (FV × St) :=
  match mkCells s len esz zero parts with
  | some cs => some (.vs len cs, s)
  | none => none
def mkOK (s : St) (len esz : Nat) (zero : List Value) (parts : List (Nat × X)) : Option (FV × St) :=
  match mkCells s len esz zero parts with
  | some cs => some (.val (.slice (some ⟨s.H.length, 0, some esz⟩) len (len * esz)), { s with H := s.H ++ [cs] })
  | none => none
def makeSK (s : St) (esz bytes : Nat) (zero : List Value) (l c : X) : Option (FV × St) :=
  match exv s.ρ l, exv s.ρ c with
  | some (.int _ l), some (.int _ c) =>
    if 0 ≤ l ∧ l ≤ c ∧ c * bytes ≤ 140737488355328 ∧ c ≤ 140737488355328 then
      some (.val (.slice (some ⟨s.H.length, 0, some esz⟩) l.toNat (c.toNat * esz)), { s with H := s.H ++ [zeros c.toNat zero] })
    else none
  | _, _ => none
def slcK (s : St) (esz : Nat) (x : X) (lo hi : Option X) : Option (FV × St) :=
  match exv s.ρ x with
  | some (.slice none 0 0) =>
    match bnd s.ρ 0 lo, bnd s.ρ 0 hi with
    | some l, some h => if l = 0 ∧ h = 0 then s.val (.slice none 0 0) else none
    | _, _ => none
  | some (.slice (some ⟨id, off, some e⟩) len cap) =>
    match bnd s.ρ 0 lo, bnd s.ρ len hi with
    | some l, some h =>
      if e = esz ∧ 0 ≤ l ∧ l ≤ h ∧ (h ≤ (len : Int) ∨ h * esz ≤ cap) ∧ l.toNat * esz ≤ cap then
        s.val (.slice (some ⟨id, off + l.toNat * esz, some e⟩) (h.toNat - l.toNat) (cap - l.toNat * esz))
      else none
    | _, _ => none
  | _ => none
def slcSK (s : St) (x : X) (lo hi : Option X) : Option (FV × St) :=
  match exv s.ρ x with
  | some (.string b) =>
    match bnd s.ρ 0 lo, bnd s.ρ b.size hi with
    | some l, some h => if 0 ≤ l ∧ l ≤ h ∧ h ≤ (b.size : Int) then s.val (.string (b.extract l.toNat h.toNat)) else none
    | _, _ => none
  | _ => none
def lenSK (s : St) (x : X) : Option (FV × St) :=
  match exv s.ρ x with
  | some (.slice none 0 0) => s.val (.int .i64 0)
  | some (.slice (some ⟨_, _, some _⟩) len _) => s.val (.int .i64 len)
  | _ => none
def lenTK (s : St) (x : X) : Option (FV × St) :=
  match exv s.ρ x with
  | some (.string b) => s.val (.int .i64 b.size)
  | _ => none
def mxK (s : St) (x y : X) : Option (FV × St) :=
  match exv s.ρ x, exv s.ρ y with
  | some (.int k a), some (.int _ b) => s.val (.int k (if b > a then b else a))
  | _, _ => none
def mnK (s : St) (x y : X) : Option (FV × St) :=
  match exv s.ρ x, exv s.ρ y with
  | some (.int k a), some (.int _ b) => s.val (.int k (if b < a then b else a))
  | _, _ => none
def appK (m : Md) (s : St) (esz bytes : Nat) (x y : X) : Option (FV × St) :=
  match exv s.ρ x, srcOf s.H esz (ex s.ρ y) with
  | some v, some (n, cs) =>
    if n = 0 then
      match v with
      | .slice none 0 0 => s.val v
      | .slice (some ⟨_, _, some _⟩) _ _ => s.val v
      | _ => none
    else match v with
      | .slice none 0 0 =>
        if n * bytes ≤ room ∧ n ≤ room then some (.val (.slice (some ⟨s.H.length, 0, some esz⟩) n (n * esz)), { s with H := s.H ++ [cs] }) else none
      | .slice (some ⟨id, off, some e⟩) len cap =>
        match s.H[id]? with
        | some o =>
          if e = esz ∧ off + cap = o.length ∧ m.wr id = true ∧ (m.nr = true → cs.all scal = true) then
            if (len + n) * esz ≤ cap then some (.val (.slice (some ⟨id, off, some e⟩) (len + n) cap), { s with H := s.H.set id (spl o (off + len * esz) cs) })
            else if off = 0 ∧ len * esz ≤ o.length ∧ (len + n) * bytes ≤ room ∧ len + n ≤ room then
              some (.val (.slice (some ⟨id, 0, some e⟩) (len + n) ((len + n) * esz)), { s with H := s.H.set id (o.take (len * esz) ++ cs) })
            else none
          else none
        | none => none
      | _ => none
  | _, _ => none
def cpyK (m : Md) (s : St) (esz : Nat) (x y : X) : Option (FV × St) :=
  match exv s.ρ x, srcOf s.H esz (ex s.ρ y) with
  | some (.slice none 0 0), some _ => s.val (.int .i64 0)
  | some (.slice (some ⟨id, off, some e⟩) len cap), some (n, cs) =>
    match s.H[id]? with
    | some o =>
      if e = esz ∧ off + cap = o.length ∧ m.wr id = true ∧ (m.nr = true → cs.all scal = true) ∧ len * esz ≤ cap then
        some (.val (.int .i64 (min n len : Nat)), { s with H := s.H.set id (spl o off (cs.take (min n len * esz))) })
      else none
    | none => none
  | _, _ => none
def clrK (m : Md) (s : St) (esz : Nat) (zero : List Value) (x : X) : Option (FV × St) :=
  match exv s.ρ x with
  | some (.slice none 0 0) => s.val (.tuple #[])
  | some (.slice (some ⟨id, off, some e⟩) len cap) =>
    match s.H[id]? with
    | some o =>
      if e = esz ∧ off + cap = o.length ∧ m.wr id = true ∧ zero.all scal = true ∧ len * esz ≤ cap then
        some (.val (.tuple #[]), { s with H := s.H.set id (spl o off (zeros len zero)) })
      else none
    | none => none
  | _ => none
def fnK (s : St) (f : Nat) (caps : List X) : Option (FV × St) :=
  match exvs s.ρ caps with
  | some vs => s.val (.func (.func f) #[] vs.toArray)
  | none => none
def nilcK (s : St) (x : X) : Option (FV × St) :=
  match ex s.ρ x with
  | .val (.func (.func f) a c) => s.val (.func (.func f) a c)
  | .val (.pointer (some a)) => s.val (.pointer (some a))
  | _ => none

def stepK (m : Md) (s : St) : CK → Option (FV × St)
  | .mov x => movK s x
  | .pick c a b => pickK s c a b
  | .bin op x y => binK s op x y
  | .beq neg x y => beqK s neg x y
  | .aeq neg ks x y => aeqK s neg ks x y
  | .un op x => unK s op x
  | .toInt k x => toIntK s k x
  | .str x => strK s x
  | .s2b _ x => s2bK s x
  | .b2s x => b2sK s x
  | .fld off n agg x => fldK s off n agg x
  | .idx x i => idxK s x i
  | .build zero parts => buildK s zero parts
  | .ext x i => extK s x i
  | .fadr off x => fadrK s off x
  | .iadr esz x i => iadrK s esz x i
  | .iadrA len esz x i => iadrAK s len esz x i
  | .load n agg x => loadK s n agg x
  | .store n x v => storeK m s n x v
  | .newV zero => newVK s zero
  | .newO zero => newOK s zero
  | .boxV x => boxVK s x
  | .boxO x => boxOK s x
  | .mkV len esz zero parts => mkVK s len esz zero parts
  | .mkO len esz zero parts => mkOK s len esz zero parts
  | .makeS esz bytes zero l c => makeSK s esz bytes zero l c
  | .slc esz x lo hi => slcK s esz x lo hi
  | .slcS x lo hi => slcSK s x lo hi
  | .lenS x => lenSK s x
  | .lenT x => lenTK s x
  | .mx x y => mxK s x y
  | .mn x y => mnK s x y
  | .app esz bytes x y => appK m s esz bytes x y
  | .cpy esz x y => cpyK m s esz x y
  | .clr esz zero x => clrK m s esz zero x
  | .call .. => none
  | .callV .. => none
  | .fn f caps => fnK s f caps
  | .nilc x => nilcK s x

/-- The function that an operation calls, and with what. -/
def callee (s : St) : CK → Option (Nat × List Value)
  | .call f args =>
    match exvs s.ρ args with
    | some vs => some (f, vs)
    | none => none
  | .callV x args =>
    match exv s.ρ x, exvs s.ρ args with
    | some (.func (.func f) first caps), some vs => if first.size = 0 then some (f, vs ++ caps.toList) else none
    | _, _ => none
  | _ => none

/-- The rows that values name at their top. -/
def idsOf : Value → List Nat
  | .pointer (some a) => [a.block]
  | .slice (some a) _ _ => [a.block]
  | _ => []

/-- What an operation touches: slots read and written, rows read; its kind (0: nothing of memory is made or written; 1: a call that writes no row that is there; 2: a call that may write the rows that its arguments name; 3: anything), and those rows. -/
structure Inf where
  rd : List Nat
  wt : List Nat
  hr : List Nat
  he : Nat
  ha : List Nat
  hb : Nat := 0
  gn : Bool := false

def xs1 : X → List Nat
  | .t n => [n]
  | _ => []
def CK.ops : CK → List X
  | .mov x | .un _ x | .toInt _ x | .str x | .s2b _ x | .b2s x | .fld _ _ _ x | .ext x _ | .fadr _ x | .load _ _ x | .boxV x | .boxO x | .lenS x | .lenT x | .clr _ _ x | .nilc x => [x]
  | .pick c a b => [c, a, b]
  | .bin _ x y | .beq _ x y | .aeq _ _ x y | .idx x y | .iadr _ x y | .iadrA _ _ x y | .store _ x y | .makeS _ _ _ x y | .mx x y | .mn x y | .app _ _ x y | .cpy _ x y => [x, y]
  | .build _ ps => ps.map fun p => p.2.2
  | .newV _ | .newO _ => []
  | .mkV _ _ _ ps | .mkO _ _ _ ps => ps.map fun p => p.2
  | .slc _ x lo hi | .slcS x lo hi => x :: (lo.toList ++ hi.toList)
  | .call _ args => args
  | .callV x args => x :: args
  | .fn _ caps => caps

def adInf (ρ : Nat → FV) (x : X) : List Nat × List Nat :=
  match adr ρ x with
  | some (.hp id _ _) => ([], [id])
  | some (.box t _ _) => ([t], [])
  | none => ([], [])

def srcInf : FV → List Nat
  | .val v => idsOf v
  | _ => []

def infK (pw : Nat → Bool) (s : St) (k : CK) : Inf :=
  let rd := k.ops.flatMap xs1
  match k with
  | .load _ _ x => { rd := rd ++ (adInf s.ρ x).1, wt := [], hr := (adInf s.ρ x).2, he := 0, ha := [] }
  | .fadr _ x | .iadrA _ _ x _ => { rd := rd ++ (adInf s.ρ x).1, wt := [], hr := [], he := 0, ha := [] }
  | .store _ x _ =>
    match adr s.ρ x with
    | some (.box t _ _) => { rd := rd ++ [t], wt := [t], hr := [], he := 0, ha := [] }
    | _ => { rd := rd, wt := [], hr := [], he := 3, ha := [] }
  | .newV _ | .boxV _ => { rd := rd, wt := [], hr := [], he := 0, ha := [], gn := true }
  | .b2s x => { rd := rd, wt := [], hr := srcInf (ex s.ρ x), he := 0, ha := [] }
  | .newO _ | .boxO _ | .mkO .. | .makeS .. | .s2b .. | .app .. | .cpy .. | .clr .. => { rd := rd, wt := [], hr := [], he := 3, ha := [] }
  | .call .. | .callV .. =>
    match callee s k with
    | some (f, vs) => if pw f then { rd := rd, wt := [], hr := [], he := 1, ha := [], hb := s.H.length } else { rd := rd, wt := [], hr := [], he := 2, ha := vs.flatMap idsOf, hb := s.H.length }
    | none => { rd := rd, wt := [], hr := [], he := 3, ha := [] }
  | _ => { rd := rd, wt := [], hr := [], he := 0, ha := [] }

def CO.on (o : CO) (ρ : Nat → FV) : Option Bool :=
  match o.g with
  | none => some true
  | some (t, b) =>
    match ρ t with
    | .val (.bool c) => some (c == b)
    | .val (.tuple _) => some false
    | _ => none

def gRd (o : CO) : List Nat :=
  match o.g with
  | some (t, _) => [t]
  | none => []

def infO (pw : Nat → Bool) (s : St) (o : CO) : Inf :=
  match o.on s.ρ with
  | some true => { infK pw s o.k with rd := gRd o ++ (infK pw s o.k).rd, wt := o.dst.toList ++ (infK pw s o.k).wt }
  | _ => { rd := gRd o, wt := o.dst.toList, hr := [], he := 0, ha := [] }

def disj (a b : List Nat) : Bool := a.all fun x => !b.contains x

/-- Does what one reads of memory stay as it is when the other acts? -/
def Inf.calm (a b : Inf) : Bool :=
  match a.he with
  | 0 => true
  | 1 => b.hr.all fun id => decide (id < a.hb)
  | 2 => b.hr.all fun id => decide (id < a.hb) && !a.ha.contains id
  | _ => b.hr.isEmpty

/-- May two operations change places? -/
def Inf.apart (a b : Inf) : Bool :=
  disj a.wt b.rd && disj b.wt a.rd && disj a.wt b.wt && !(a.gn && b.gn) && (a.he == 0 || b.he == 0) && a.calm b && b.calm a

/-- Each two operations that Go may turn round may change places. -/
def allApart : List (CO × Inf) → Bool
  | [] => true
  | (o, i) :: rest => rest.all (fun p => p.1.pre.contains o.ix || i.apart p.2) && allApart rest

/-- The way that a call in a region with an open order may act. -/
def Md.drawn (m : Md) (pw : Nat → Bool) (H : Hp) (f : Nat) (vs : List Value) : Md :=
  { m with wr := fun id => decide (H.length ≤ id) || (!pw f && m.wr id && (vs.flatMap idsOf).contains id) }

structure Env where
  fns : Nat → Option CF
  prim : Nat → Option (Md → List Value → Hp → Option (Value × Hp))
  pw : Nat → Bool
  tr : Nat → Bool

def ini (vs : List Value) : Nat → FV := fun i => match vs[i]? with | some v => .val v | none => .junk

def resV (s : St) : RV → Option Value
  | .t n => exv s.ρ (.t n)
  | .cell t n agg =>
    match loadK s n agg (.t t) with
    | some (.val v, _) => some v
    | _ => none

def resVs (s : St) : List RV → Option (List Value)
  | [] => some []
  | r :: rs =>
    match resV s r, resVs s rs with
    | some v, some vs => some (v :: vs)
    | _, _ => none

def resT (s : St) (rs : List RV) : Option Value :=
  match resVs s rs with
  | some [v] => some v
  | some vs => some (.tuple vs.toArray)
  | none => none

def stepC (E : Env) (m : Md) (draw : Bool) (ev : Md → Nat → List Value → Hp → Option (Value × Hp)) (s : St) (k : CK) : Option (FV × St) :=
  match callee s k with
  | some (f, vs) =>
    match ev (if draw then m.drawn E.pw s.H f vs else m) f vs s.H with
    | some (r, H) => some (.val r, { s with H := H })
    | none => none
  | none => stepK m s k

def stepO (E : Env) (m : Md) (draw : Bool) (ev : Md → Nat → List Value → Hp → Option (Value × Hp)) (s : St) (o : CO) : Option St :=
  match o.on s.ρ with
  | some true =>
    match stepC E m draw ev s o.k with
    | some (v, s') => some { s' with ρ := upd s'.ρ o.dst v }
    | none => none
  | some false => some { s with ρ := upd s.ρ o.dst (.val (.tuple #[])) }
  | none => none

def runR (E : Env) (m : Md) (draw : Bool) (ev : Md → Nat → List Value → Hp → Option (Value × Hp)) : List CO → St → Option St
  | [], s => some s
  | o :: os, s =>
    match stepO E m draw ev s o with
    | some s' => runR E m draw ev os s'
    | none => none

def infR (E : Env) (m : Md) (ev : Md → Nat → List Value → Hp → Option (Value × Hp)) : List CO → St → List (CO × Inf)
  | [], _ => []
  | o :: os, s =>
    match stepO E m true ev s o with
    | some s' => (o, infO E.pw s o) :: infR E m ev os s'
    | none => []

mutual
def evC (E : Env) : Nat → Md → CC → St → Option (Ex × St)
  | 0, _, _, _ => none
  | _ + 1, _, .skip, s => some (.normal, s)
  | _ + 1, _, .exit id, s => some (.exit id, s)
  | _ + 1, _, .ret, s => some (.ret, s)
  | k + 1, m, .reg draw ops, s =>
    if draw = true ∧ allApart (infR E m (evF E k) ops s) = false then none else
    match runR E m draw (evF E k) ops s with
    | some s' => some (.normal, s')
    | none => none
  | k + 1, m, .seq a b, s =>
    match evC E k m a s with
    | some (.normal, s') => evC E k m b s'
    | r => r
  | k + 1, m, .cond c a b, s =>
    match exv s.ρ c with
    | some (.bool true) => evC E k m a s
    | some (.bool false) => evC E k m b s
    | _ => none
  | k + 1, m, .block id c, s =>
    match evC E k m c s with
    | some (.exit j, s') => if j = id then some (.normal, s') else some (.exit j, s')
    | r => r
  | k + 1, m, .loop c, s =>
    match evC E k m c s with
    | some (.normal, s') => evC E k m (.loop c) s'
    | r => r
def evF (E : Env) : Nat → Md → Nat → List Value → Hp → Option (Value × Hp)
  | 0, _, _, _, _ => none
  | k + 1, m, f, vs, H =>
    match E.prim f with
    | some p => p m vs H
    | none =>
    match E.fns f with
    | none => none
    | some cf =>
      if vs.length ≤ cf.nt then
        match evC E k { m with nr := m.nr || E.tr f } cf.body { ρ := ini vs, gn := 0, H := H } with
        | some (.exit _, _) => none
        | some (_, s) =>
          match resT s cf.res with
          | some v => if E.tr f then (if flatScal v then some (v, s.H.take H.length) else none) else some (v, s.H)
          | none => none
        | none => none
      else none
end

end Go.Proofs.Ytdplmjlbkaipiaa.Ev
