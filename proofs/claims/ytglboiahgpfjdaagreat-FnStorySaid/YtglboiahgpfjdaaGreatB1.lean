/- Texts of the proof, laid one behind the other. -/
import Derived.Calls
import Derived.Orders
import Derived.Laws.Append
import Derived.Laws.StructEq
import Derived.Laws.BytesString
import Derived.Laws.IdiomCopy
import Derived.Laws.IdiomStrings
import Derived.Laws.Slices
import Derived.KernelRfl
import Derived.Below
import Derived.Laws.MakeOwn
namespace Go.Proofs.YtglboiahgpfjdaaGreat.Ev
set_option linter.all false
set_option maxRecDepth 4000
open Go
theorem As {p : Prop} [Decidable p] (h : decide p = true) : p := of_decide_eq_true h
theorem Au {p : Prop} [Decidable p] (h : decide p = false) : ¬ p := of_decide_eq_false h
theorem B7 {α : Type} {l : List α} {i : Nat} (h : i < l.length) : l[i]? = some l[i] := List.getElem?_eq_getElem h
theorem C8 {a b c : Nat} (h : a ≤ b) (k : b ≤ c) : a ≤ c := Nat.le_trans h k
theorem J3 {a b c : Nat} (h : a < b) (k : b ≤ c) : a < c := Nat.lt_of_lt_of_le h k
theorem Eg {α : Type} {a b : List α} : a <+: a ++ b := List.prefix_append a b
theorem Lh {α : Type} {x : α} {a b : List α} (h : x ∈ a ++ b) : x ∈ a ∨ x ∈ b := List.mem_append.1 h
theorem bJ {α : Type} {x a : α} (h : x ∈ [a]) : x = a := List.mem_singleton.1 h
theorem Em {α : Type} {l : List α} {i : Nat} {a : α} (h : l[i]? = some a) : ∃ h : i < l.length, l[i] = a := List.getElem?_eq_some_iff.1 h
abbrev Hp := List (List Value)
inductive FV where
 | val (v : Value)
 | bx (g : Nat) (cs : List Value)
 | vp (t g off : Nat)
 | vs (n : Nat) (cs : List Value)
 | junk
 deriving Inhabited
inductive X where
 | t (n : Nat)
 | c (v : Value)
 | f (n : Nat)
 deriving Inhabited
inductive CK where
 | mov (x : X)
 | pick (c a b : X)
 | bin (op : BinOp) (x y : X)
 | beq (neg : Bool) (x y : X)
 | aeq (neg : Bool) (ks : List Nat) (x y : X)
 | un (op : UnOp) (x : X)
 | toInt (k : IntKind) (x : X)
 | str (x : X)
 | s2b (esz : Nat) (x : X)
 | b2s (x : X)
 | fld (off n : Nat) (agg : Bool) (x : X)
 | idx (x i : X)
 | idxA (n : Nat) (x i : X)
 | build (zero : List Value) (parts : List (Nat × Nat × X))
 | ext (x : X) (i : Nat)
 | fadr (off : Nat) (x : X)
 | iadr (esz : Nat) (x i : X)
 | iadrA (len esz : Nat) (x i : X)
 | load (n : Nat) (agg : Bool) (x : X)
 | store (n : Nat) (x v : X)
 | newV (zero : List Value)
 | newO (zero : List Value)
 | boxV (x : X)
 | boxO (x : X)
 | mkV (len esz : Nat) (zero : List Value) (parts : List (Nat × X))
 | mkO (len esz : Nat) (zero : List Value) (parts : List (Nat × X))
 | makeS (esz bytes : Nat) (zero : List Value) (l c : X)
 | slc (esz : Nat) (x : X) (lo hi : Option X)
 | slcS (x : X) (lo hi : Option X)
 | slc3 (esz : Nat) (x lo hi mx : X)
 | lenS (x : X)
 | lenT (x : X)
 | mx (x y : X)
 | mn (x y : X)
 | app (esz bytes : Nat) (x y : X)
 | cpy (esz : Nat) (x y : X)
 | clr (esz : Nat) (zero : List Value) (x : X)
 | call (f : Nat) (args : List X)
 | callV (x : X) (args : List X)
 | fn (f : Nat) (caps : List X)
 | nilc (x : X)
 | pureC (f : Nat) (args : List X)
 | makeV (esz bytes : Nat) (zero : List Value) (l c : X)
 | appP (esz bytes t : Nat) (y : X)
 | buildP (t esz : Nat) (zero : List Value) (parts : List (Nat × Nat × X))
 | newD (t : Nat) (zero : List Value)
 deriving Inhabited
structure CO where
 dst : Option Nat
 g : Option (Nat × Bool)
 k : CK
 ix : Nat
 pre : List Nat
 deriving Inhabited
inductive CC where
 | skip
 | reg (draw : Bool) (ops : List CO)
 | seq (a b : CC)
 | cond (c : X) (a b : CC)
 | block (id : Nat) (c : CC)
 | loop (c : CC)
 | exit (id : Nat)
 | ret
 deriving Inhabited
inductive RV where
 | t (n : Nat)
 | cell (t n : Nat) (agg : Bool)
 deriving Inhabited
structure CF where
 nt : Nat
 body : CC
 res : List RV
 deriving Inhabited
inductive Ex where
 | normal
 | exit (id : Nat)
 | ret
structure St where
 ρ : Nat → FV
 gn : Nat
 H : Hp
structure Md where
 wr : Nat → Bool
 nr : Bool
def Ah (ρ : Nat → FV) (d : Option Nat) (v : FV) : Nat → FV :=
 match d with
 | none => ρ
 | some d => fun i => if i = d then v else ρ i
def ex (ρ : Nat → FV) : X → FV
 | .t n => ρ n
 | .c v => .val v
 | .f n => .val (.func (.func n) #[] #[])
def Av (ρ : Nat → FV) (x : X) : Option Value :=
 match ex ρ x with
 | .val v => some v
 | _ => none
def Dw (ρ : Nat → FV) : List X → Option (List Value)
 | [] => some []
 | x :: xs =>
  match Av ρ x, Dw ρ xs with
  | some v, some vs => some (v :: vs)
  | _, _ => none
def scal : Value → Bool
 | .int .. | .bool _ | .string _ => true
 | .pointer none | .slice none 0 0 | .nilFunc => true
 | _ => false
def Ez : Value → List Value
 | .agg cs => cs.toList
 | v => [v]
def vc : Value → Option (List Value)
 | .tuple _ => none
 | .agg cs => some cs.toList
 | v => some [v]
def A8 : Value → Bool
 | .agg cs => cs.toList.all scal
 | .tuple vs => vs.toList.all fun v => (Ez v).all scal
 | v => scal v
def spl : List Value → Nat → List Value → List Value
 | o, _, [] => o
 | o, i, c :: cs => spl (o.set i c) (i + 1) cs
def Hc (op : BinOp) (x y : Value) : Option Value :=
 match op, x, y with
 | .shl, .int k a, .int _ b => if b < 0 then none else some (.int k (k.wrap (a * 2 ^ (min b.toNat k.bits))))
 | .shr, .int k a, .int _ b => if b < 0 then none else some (.int k (a.fdiv (2 ^ (min b.toNat k.bits))))
 | .add, .int k a, .int k' b => if k = k' then some (.int k (k.wrap (a + b))) else none
 | .sub, .int k a, .int k' b => if k = k' then some (.int k (k.wrap (a - b))) else none
 | .mul, .int k a, .int k' b => if k = k' then some (.int k (k.wrap (a * b))) else none
 | .quo, .int k a, .int k' b => if k = k' then if b = 0 then none else some (.int k (k.wrap (a.tdiv b))) else none
 | .rem, .int k a, .int k' b => if k = k' then if b = 0 then none else some (.int k (a.tmod b)) else none
 | .and, .int k a, .int k' b => if k = k' then some (.int k (k.wrap ((BitVec.ofInt k.bits a &&& BitVec.ofInt k.bits b).toNat))) else none
 | .or, .int k a, .int k' b => if k = k' then some (.int k (k.wrap ((BitVec.ofInt k.bits a ||| BitVec.ofInt k.bits b).toNat))) else none
 | .xor, .int k a, .int k' b => if k = k' then some (.int k (k.wrap ((BitVec.ofInt k.bits a ^^^ BitVec.ofInt k.bits b).toNat))) else none
 | .andNot, .int k a, .int k' b => if k = k' then some (.int k (k.wrap ((BitVec.ofInt k.bits a &&& ~~~ BitVec.ofInt k.bits b).toNat))) else none
 | .eql, .int k a, .int k' b => if k = k' then some (.bool (decide (a = b))) else none
 | .neq, .int k a, .int k' b => if k = k' then some (.bool (!decide (a = b))) else none
 | .lss, .int k a, .int k' b => if k = k' then some (.bool (decide (a < b))) else none
 | .leq, .int k a, .int k' b => if k = k' then some (.bool (decide (a ≤ b))) else none
 | .gtr, .int k a, .int k' b => if k = k' then some (.bool (decide (a > b))) else none
 | .geq, .int k a, .int k' b => if k = k' then some (.bool (decide (a ≥ b))) else none
 | .add, .string a, .string b => if a.size + b.size ≤ 9223372036854775807 then some (.string (a ++ b)) else none
 | .eql, .string a, .string b => some (.bool (decide (a = b)))
 | .neq, .string a, .string b => some (.bool (!decide (a = b)))
 | .lss, .string a, .string b => some (.bool (Op.bytesLess a.toList b.toList))
 | .gtr, .string a, .string b => some (.bool (!(Op.bytesLess a.toList b.toList || decide (a = b))))
 | _, _, _ => none
def Ij : Nat → Value → Value → Option Bool
 | 0, .int k a, .int k' b => if k = k' then some (decide (a = b)) else none
 | 1, .bool a, .bool b => some (decide (a = b))
 | 2, .string a, .string b => some (decide (a = b))
 | _, _, _ => none
def Gj : List Nat → List Value → List Value → Option Bool
 | [], [], [] => some true
 | k :: ks, a :: as, b :: bs =>
  match Ij k a b, Gj ks as bs with
  | some x, some y => some (x && y)
  | _, _ => none
 | _, _, _ => none
def Ui (op : UnOp) (x : Value) : Option Value :=
 match op, x with
 | .neg, .int k n => some (.int k (k.wrap (0 - n)))
 | .not, .bool b => some (.bool !b)
 | _, _ => none
def Ba : List Value → List (Nat × Nat × Value) → Option (List Value)
 | cs, [] => some cs
 | cs, (off, n, v) :: rest =>
  match vc v with
  | some vs => if vs.length = n ∧ off + n ≤ cs.length then Ba (spl cs off vs) rest else none
  | none => none
def Fb (ρ : Nat → FV) : List (Nat × Nat × X) → Option (List (Nat × Nat × Value))
 | [] => some []
 | (o, n, x) :: xs =>
  match Av ρ x, Fb ρ xs with
  | some v, some vs => some ((o, n, v) :: vs)
  | _, _ => none
inductive Ad where
 | hp (id off gen : Nat)
 | box (t g off : Nat)
def Jz (ρ : Nat → FV) (x : X) : Option Ad :=
 match x with
 | .t t =>
  match ρ t with
  | .bx g _ => some (.box t g 0)
  | .vp t g off => some (.box t g off)
  | .val (.pointer (some ⟨id, off, some gen⟩)) => some (.hp id off gen)
  | _ => none
 | _ => none
def Ad.fv (a : Ad) (n : Nat) : FV :=
 match a with
 | .hp id off gen => .val (.pointer (some ⟨id, off + n, some gen⟩))
 | .box t g off => .vp t g (off + n)
def Ad.live (ρ : Nat → FV) : Ad → Bool
 | .hp .. => true
 | .box t g _ =>
  match ρ t with
  | .bx g' _ => decide (g' = g)
  | _ => false
def B6 (s : St) : Ad → Option (List Value × Nat)
 | .hp id off gen =>
  match s.H[id]? with
  | some o => if o.length = gen then some (o, off) else none
  | none => none
 | .box t g off =>
  match s.ρ t with
  | .bx g' cs => if g' = g then some (cs, off) else none
  | _ => none
def Nc (H : Hp) : Value → Option (Nat × Nat × Nat × Nat × List Value)
 | .slice (some ⟨id, off, some e⟩) len cap =>
  match H[id]? with
  | some o => if off + cap = o.length then some (id, off, e, len, o) else none
  | none => none
 | _ => none
def F8 (H : Hp) (esz : Nat) : FV → Option (Nat × List Value)
 | .val (.slice none 0 0) => some (0, [])
 | .val v =>
  match Nc H v with
  | some (_, off, e, len, o) => if e = esz ∧ off + len * esz ≤ o.length then some (len, (o.drop off).take (len * esz)) else none
  | none => none
 | .vs n cs => if cs.length = n * esz then some (n, cs) else none
 | _ => none
def Vg : Value → Option UInt8
 | .int .u8 n => some (UInt8.ofNat n.toNat)
 | _ => none
def Hj : List Value → Option (List UInt8)
 | [] => some []
 | c :: cs =>
  match Vg c, Hj cs with
  | some b, some bs => some (b :: bs)
  | _, _ => none
def J7 (ρ : Nat → FV) (d : Int) : Option X → Option Int
 | none => some d
 | some x =>
  match Av ρ x with
  | some (.int _ n) => some n
  | _ => none
def room : Nat := 140737488355328
def St.val (s : St) (v : Value) : Option (FV × St) := some (.val v, s)
def Bd (s : St) (v : Option Value) : Option (FV × St) :=
 match v with
 | some v => some (.val v, s)
 | none => none
def Rk (x : FV) : Option FV :=
 match x with
 | .val v => some (.val v)
 | .vp t g off => some (.vp t g off)
 | _ => none
def Ka (s : St) (x : X) : Option (FV × St) :=
 match Rk (ex s.ρ x) with
 | some f => some (f, s)
 | none => none
def Gc (s : St) (c a b : X) : Option (FV × St) :=
 match Av s.ρ c, Av s.ρ a, Av s.ρ b with
 | some (.bool t), some a, some b => s.val (if t then a else b)
 | _, _, _ => none
def J4 (s : St) (op : BinOp) (x y : X) : Option (FV × St) :=
 match Av s.ρ x, Av s.ρ y with
 | some a, some b => Bd s (Hc op a b)
 | _, _ => none
def J8 (s : St) (neg : Bool) (x y : X) : Option (FV × St) :=
 match Av s.ρ x, Av s.ρ y with
 | some (.bool a), some (.bool b) => s.val (.bool (if neg then !decide (a = b) else decide (a = b)))
 | _, _ => none
def J6 (s : St) (neg : Bool) (ks : List Nat) (x y : X) : Option (FV × St) :=
 match Av s.ρ x, Av s.ρ y with
 | some (.agg a), some (.agg b) =>
  match Gj ks a.toList b.toList with
  | some r => s.val (.bool (if neg then !r else r))
  | none => none
 | _, _ => none
def Ub (s : St) (op : UnOp) (x : X) : Option (FV × St) :=
 match Av s.ρ x with
 | some a => Bd s (Ui op a)
 | none => none
def D4 (s : St) (k : IntKind) (x : X) : Option (FV × St) :=
 match Av s.ρ x with
 | some (.int _ n) => s.val (.int k (k.wrap n))
 | _ => none
def Ke (s : St) (x : X) : Option (FV × St) :=
 match Av s.ρ x with
 | some (.string b) => s.val (.string b)
 | _ => none
def Xu (s : St) (x : X) : Option (FV × St) :=
 match Av s.ρ x with
 | some (.string b) => some (.val (.slice (some ⟨s.H.length, 0, some 1⟩) b.size b.size), { s with H := s.H ++ [b.data.toList.map fun c => Value.int .u8 c.toNat] })
 | _ => none
def Vd (s : St) (x : X) : Option (FV × St) :=
 match F8 s.H 1 (ex s.ρ x) with
 | some (_, cs) =>
  match Hj cs with
  | some bs => s.val (.string ⟨bs.toArray⟩)
  | none => none
 | none => none
def Y2 (s : St) (off n : Nat) (agg : Bool) (x : X) : Option (FV × St) :=
 match Av s.ρ x with
 | some (.agg cs) => if agg then s.val (.agg (cs.extract off (off + n))) else Bd s cs[off]?
 | _ => none
def Ky (s : St) (x i : X) : Option (FV × St) :=
 match Av s.ρ x, Av s.ρ i with
 | some (.string b), some (.int _ i) =>
  if 0 ≤ i then
   match b[i.toNat]? with
   | some c => s.val (.int .u8 c.toNat)
   | none => none
  else none
 | _, _ => none
def O3 (s : St) (n : Nat) (x i : X) : Option (FV × St) :=
 match Av s.ρ x, Av s.ρ i with
 | some (.agg cs), some (.int _ i) => if 0 ≤ i ∧ i < n then Bd s cs[i.toNat]? else none
 | _, _ => none
def El (k : Int) : ByteArray := if k = 1 then ⟨#[108, 111, 103, 105, 110]⟩ else if k = 2 then ⟨#[105, 115, 115, 117, 101]⟩ else if k = 3 then ⟨#[114, 101, 102, 101, 114]⟩ else if k = 4 then ⟨#[100, 101, 108, 101, 103, 97, 116, 101]⟩ else ⟨#[101, 118, 101, 110, 116]⟩
def nP (n : Nat) : List Nat := if n < 128 then [n] else (n % 128 + 128) :: nP (n / 128)
termination_by n
def iZ (k : Int) : ByteArray := if 1 ≤ k ∧ k ≤ 1000000 then ⟨#[107]⟩ ++ ⟨((nP k.toNat).map UInt8.ofNat).toArray⟩ else ⟨#[]⟩
def Mi (f : Nat) (vs : List Value) : Option Value :=
 match vs with
 | [.int .i64 k] => if f = 51 then some (.string (El k)) else if f = 152 then some (.string (iZ k)) else none
 | _ => none
def Qj (s : St) (f : Nat) (args : List X) : Option (FV × St) :=
 match Dw s.ρ args with
 | some vs => match Mi f vs with
  | some v => s.val v
  | none => none
 | none => none
def B5 (s : St) (zero : List Value) (parts : List (Nat × Nat × X)) : Option (FV × St) :=
 match Fb s.ρ parts with
 | some ps =>
  match Ba zero ps with
  | some cs => s.val (.agg cs.toArray)
  | none => none
 | none => none
def Kd (s : St) (x : X) (i : Nat) : Option (FV × St) :=
 match Av s.ρ x with
 | some (.tuple vs) => Bd s vs[i]?
 | _ => none
def Ge (s : St) (off : Nat) (x : X) : Option (FV × St) :=
 match Jz s.ρ x with
 | some a => if a.live s.ρ = true then some (a.fv off, s) else none
 | none => none
def B4 (s : St) (esz : Nat) (x i : X) : Option (FV × St) :=
 match Av s.ρ x, Av s.ρ i with
 | some (.slice (some ⟨id, off, some e⟩) len cap), some (.int _ i) =>
  if e = esz ∧ 0 ≤ i ∧ i < (len : Int) then some (.val (.pointer (some ⟨id, off + i.toNat * esz, some (off + cap)⟩)), s) else none
 | _, _ => none
def Kl (s : St) (len esz : Nat) (x i : X) : Option (FV × St) :=
 match Jz s.ρ x, Av s.ρ i with
 | some a, some (.int _ i) => if a.live s.ρ = true ∧ 0 ≤ i ∧ i < (len : Int) then some (a.fv (i.toNat * esz), s) else none
 | _, _ => none
def Fe (s : St) (n : Nat) (agg : Bool) (x : X) : Option (FV × St) :=
 match Jz s.ρ x with
 | some a =>
  match B6 s a with
  | some (o, off) =>
   if agg then (if off + n ≤ o.length then s.val (.agg ((o.drop off).take n).toArray) else none)
   else Bd s o[off]?
  | none => none
 | none => none
def Nm (ρ : Nat → FV) (x : X) : Option (List Value) :=
 match Av ρ x with
 | some v => vc v
 | none => none
def D6 (m : Md) (s : St) (n : Nat) (x v : X) : Option (FV × St) :=
 match Jz s.ρ x, Nm s.ρ v with
 | some a, some vs =>
  match B6 s a with
  | some (o, off) =>
   if vs.length = n ∧ off + n ≤ o.length then
    match a with
    | .hp id _ _ => if m.wr id = true ∧ (m.nr = true → vs.all scal = true) then some (.junk, { s with H := s.H.set id (spl o off vs) }) else none
    | .box t g _ => some (.junk, { s with ρ := Ah s.ρ (some t) (.bx g (spl o off vs)) })
   else none
  | none => none
 | _, _ => none
def Eh (s : St) (zero : List Value) : Option (FV × St) := some (.bx s.gn zero, { s with gn := s.gn + 1 })
def Qn (s : St) (t : Nat) (zero : List Value) : Option (FV × St) :=
 match s.ρ t with
 | .junk => some (.bx 0 zero, s)
 | _ => none
def D3 (s : St) (zero : List Value) : Option (FV × St) := some (.val (.pointer (some ⟨s.H.length, 0, some zero.length⟩)), { s with H := s.H ++ [zero] })
def F9 (s : St) (x : X) : Option (FV × St) :=
 match Nm s.ρ x with
 | some vs => Eh s vs
 | none => none
def Fy (s : St) (x : X) : Option (FV × St) :=
 match Nm s.ρ x with
 | some vs => D3 s vs
 | none => none
def Bn (n : Nat) (zero : List Value) : List Value := (List.replicate n zero).flatten
def B8 (s : St) (len esz : Nat) (zero : List Value) (parts : List (Nat × X)) : Option (List Value) :=
 match Fb s.ρ (parts.map fun p => (p.1 * esz, esz, p.2)) with
 | some ps => Ba (Bn len zero) ps
 | none => none
def J5 (s : St) (len esz : Nat) (zero : List Value) (parts : List (Nat × X)) : Option (FV × St) :=
 match B8 s len esz zero parts with
 | some cs => some (.vs len cs, s)
 | none => none
def I2 (s : St) (len esz : Nat) (zero : List Value) (parts : List (Nat × X)) : Option (FV × St) :=
 match B8 s len esz zero parts with
 | some cs => some (.val (.slice (some ⟨s.H.length, 0, some esz⟩) len (len * esz)), { s with H := s.H ++ [cs] })
 | none => none
def Ms (s : St) (esz bytes : Nat) (zero : List Value) (l c : X) : Option (FV × St) :=
 match Av s.ρ l, Av s.ρ c with
 | some (.int _ l), some (.int _ c) =>
  if 0 ≤ l ∧ l ≤ c ∧ c * bytes ≤ 140737488355328 ∧ c ≤ 140737488355328 then
   some (.val (.slice (some ⟨s.H.length, 0, some esz⟩) l.toNat (c.toNat * esz)), { s with H := s.H ++ [Bn c.toNat zero] })
  else none
 | _, _ => none
def Ih (s : St) (esz : Nat) (x : X) (lo hi : Option X) : Option (FV × St) :=
 match Av s.ρ x with
 | some (.slice none 0 0) =>
  match J7 s.ρ 0 lo, J7 s.ρ 0 hi with
  | some l, some h => if l = 0 ∧ h = 0 then s.val (.slice none 0 0) else none
  | _, _ => none
 | some (.slice (some ⟨id, off, some e⟩) len cap) =>
  match J7 s.ρ 0 lo, J7 s.ρ len hi with
  | some l, some h =>
   if e = esz ∧ 0 ≤ l ∧ l ≤ h ∧ (h ≤ (len : Int) ∨ h * esz ≤ cap) ∧ l.toNat * esz ≤ cap then
    s.val (.slice (some ⟨id, off + l.toNat * esz, some e⟩) (h.toNat - l.toNat) (cap - l.toNat * esz))
   else none
  | _, _ => none
 | _ => none
def Tm (s : St) (esz : Nat) (x lo hi mx : X) : Option (FV × St) :=
 match Av s.ρ x with
 | some (.slice none 0 0) =>
  match Av s.ρ lo, Av s.ρ hi, Av s.ρ mx with
  | some (.int _ l), some (.int _ h), some (.int _ n) => if l = 0 ∧ h = 0 ∧ n = 0 then s.val (.slice none 0 0) else none
  | _, _, _ => none
 | some (.slice (some ⟨id, off, some e⟩) _ cap) =>
  match Av s.ρ lo, Av s.ρ hi, Av s.ρ mx with
  | some (.int _ l), some (.int _ h), some (.int _ n) =>
   if e = esz ∧ 0 ≤ l ∧ l ≤ h ∧ h ≤ n ∧ n.toNat * esz ≤ cap then
    s.val (.slice (some ⟨id, off + l.toNat * esz, some e⟩) (h.toNat - l.toNat) ((n.toNat - l.toNat) * esz))
   else none
  | _, _, _ => none
 | _ => none
def C2 (s : St) (x : X) (lo hi : Option X) : Option (FV × St) :=
 match Av s.ρ x with
 | some (.string b) =>
  match J7 s.ρ 0 lo, J7 s.ρ b.size hi with
  | some l, some h => if 0 ≤ l ∧ l ≤ h ∧ h ≤ (b.size : Int) then s.val (.string (b.extract l.toNat h.toNat)) else none
  | _, _ => none
 | _ => none
def Lm (s : St) (x : X) : Option (FV × St) :=
 match Av s.ρ x with
 | some (.slice none 0 0) => s.val (.int .i64 0)
 | some (.slice (some ⟨_, _, some _⟩) len _) => s.val (.int .i64 len)
 | _ => none
def Cn (s : St) (x : X) : Option (FV × St) :=
 match Av s.ρ x with
 | some (.string b) => s.val (.int .i64 b.size)
 | _ => none
def pN (s : St) (x y : X) : Option (FV × St) :=
 match Av s.ρ x, Av s.ρ y with
 | some (.int k a), some (.int _ b) => s.val (.int k (if b > a then b else a))
 | _, _ => none
def qJ (s : St) (x y : X) : Option (FV × St) :=
 match Av s.ρ x, Av s.ρ y with
 | some (.int k a), some (.int _ b) => s.val (.int k (if b < a then b else a))
 | _, _ => none
def Ce (m : Md) (s : St) (esz bytes : Nat) (x y : X) : Option (FV × St) :=
 match Av s.ρ x, F8 s.H esz (ex s.ρ y) with
 | some v, some (n, cs) =>
  if n = 0 then
   match v with
   | .slice none 0 0 => s.val v
   | .slice (some ⟨_, _, some _⟩) _ _ => s.val v
   | _ => none
  else match v with
   | .slice none 0 0 =>
    if n * bytes ≤ room ∧ n ≤ room then some (.val (.slice (some ⟨s.H.length, 0, some esz⟩) n (n * esz)), { s with H := s.H ++ [cs] }) else none
   | .slice (some ⟨id, off, some e⟩) len cap =>
    match s.H[id]? with
    | some o =>
     if e = esz ∧ off + cap = o.length ∧ m.wr id = true ∧ (m.nr = true → cs.all scal = true) then
      if (len + n) * esz ≤ cap then some (.val (.slice (some ⟨id, off, some e⟩) (len + n) cap), { s with H := s.H.set id (spl o (off + len * esz) cs) })
      else if off = 0 ∧ len * esz ≤ o.length ∧ (len + n) * bytes ≤ room ∧ len + n ≤ room then
       some (.val (.slice (some ⟨id, 0, some e⟩) (len + n) ((len + n) * esz)), { s with H := s.H.set id (o.take (len * esz) ++ cs) })
      else none
     else none
    | none => none
   | _ => none
 | _, _ => none
def U4 (m : Md) (s : St) (esz : Nat) (x y : X) : Option (FV × St) :=
 match Av s.ρ x, F8 s.H esz (ex s.ρ y) with
 | some (.slice none 0 0), some _ => s.val (.int .i64 0)
 | some (.slice (some ⟨id, off, some e⟩) len cap), some (n, cs) =>
  match s.H[id]? with
  | some o =>
   if e = esz ∧ off + cap = o.length ∧ m.wr id = true ∧ (m.nr = true → cs.all scal = true) ∧ len * esz ≤ cap then
    some (.val (.int .i64 (min n len : Nat)), { s with H := s.H.set id (spl o off (cs.take (min n len * esz))) })
   else none
  | none => none
 | _, _ => none
def Pi (m : Md) (s : St) (esz : Nat) (zero : List Value) (x : X) : Option (FV × St) :=
 match Av s.ρ x with
 | some (.slice none 0 0) => s.val (.tuple #[])
 | some (.slice (some ⟨id, off, some e⟩) len cap) =>
  match s.H[id]? with
  | some o =>
   if e = esz ∧ off + cap = o.length ∧ m.wr id = true ∧ zero.all scal = true ∧ len * esz ≤ cap then
    some (.val (.tuple #[]), { s with H := s.H.set id (spl o off (Bn len zero)) })
   else none
  | none => none
 | _ => none
def Uf (s : St) (f : Nat) (caps : List X) : Option (FV × St) :=
 match Dw s.ρ caps with
 | some vs => s.val (.func (.func f) #[] vs.toArray)
 | none => none
def Gd (s : St) (x : X) : Option (FV × St) :=
 match ex s.ρ x with
 | .val (.func (.func f) a c) => s.val (.func (.func f) a c)
 | .val (.pointer (some a)) => s.val (.pointer (some a))
 | _ => none
def E7 (s : St) (t esz : Nat) : Option St :=
 match s.ρ t with
 | .vs n cs => if cs.length = n * esz then some { s with H := s.H ++ [cs], ρ := Ah s.ρ (some t) (.val (.slice (some ⟨s.H.length, 0, some esz⟩) n (n * esz))) } else none
 | _ => none
def Mw (s : St) (bytes : Nat) (zero : List Value) (l c : X) : Option (FV × St) :=
 match Av s.ρ l, Av s.ρ c with
 | some (.int _ l), some (.int _ c) =>
  if 0 ≤ l ∧ l = c ∧ c * bytes ≤ 140737488355328 ∧ c ≤ 140737488355328 then some (.vs c.toNat (Bn c.toNat zero), s) else none
 | _, _ => none
def Kj (m : Md) (s : St) (esz bytes t : Nat) (y : X) : Option (FV × St) :=
 match E7 s t esz with
 | some s1 => Ce m s1 esz bytes (.t t) y
 | none => none
def Ma (s : St) (t esz : Nat) (zero : List Value) (parts : List (Nat × Nat × X)) : Option (FV × St) :=
 match E7 s t esz with
 | some s1 => B5 s1 zero parts
 | none => none
def Ai (m : Md) (s : St) : CK → Option (FV × St)
 | .mov x => Ka s x
 | .pick c a b => Gc s c a b
 | .bin op x y => J4 s op x y
 | .beq neg x y => J8 s neg x y
 | .aeq neg ks x y => J6 s neg ks x y
 | .un op x => Ub s op x
 | .toInt k x => D4 s k x
 | .str x => Ke s x
 | .s2b _ x => Xu s x
 | .b2s x => Vd s x
 | .fld off n agg x => Y2 s off n agg x
 | .idx x i => Ky s x i
 | .idxA n x i => O3 s n x i
 | .build zero parts => B5 s zero parts
 | .ext x i => Kd s x i
 | .fadr off x => Ge s off x
 | .iadr esz x i => B4 s esz x i
 | .iadrA len esz x i => Kl s len esz x i
 | .load n agg x => Fe s n agg x
 | .store n x v => D6 m s n x v
 | .newV zero => Eh s zero
 | .newO zero => D3 s zero
 | .boxV x => F9 s x
 | .boxO x => Fy s x
 | .mkV len esz zero parts => J5 s len esz zero parts
 | .mkO len esz zero parts => I2 s len esz zero parts
 | .makeS esz bytes zero l c => Ms s esz bytes zero l c
 | .slc esz x lo hi => Ih s esz x lo hi
 | .slcS x lo hi => C2 s x lo hi
 | .slc3 esz x lo hi mx => Tm s esz x lo hi mx
 | .lenS x => Lm s x
 | .lenT x => Cn s x
 | .mx x y => pN s x y
 | .mn x y => qJ s x y
 | .app esz bytes x y => Ce m s esz bytes x y
 | .cpy esz x y => U4 m s esz x y
 | .clr esz zero x => Pi m s esz zero x
 | .call .. => none
 | .callV .. => none
 | .fn f caps => Uf s f caps
 | .nilc x => Gd s x
 | .pureC f args => Qj s f args
 | .makeV _ bytes zero l c => Mw s bytes zero l c
 | .appP esz bytes t y => Kj m s esz bytes t y
 | .buildP t esz zero parts => Ma s t esz zero parts
 | .newD t zero => Qn s t zero
def callee (s : St) : CK → Option (Nat × List Value)
 | .call f args =>
  match Dw s.ρ args with
  | some vs => some (f, vs)
  | none => none
 | .callV x args =>
  match Av s.ρ x, Dw s.ρ args with
  | some (.func (.func f) first caps), some vs => if first.size = 0 then some (f, vs ++ caps.toList) else none
  | _, _ => none
 | _ => none
def Xz : Value → List Nat
 | .pointer (some a) => [a.block]
 | .slice (some a) _ _ => [a.block]
 | _ => []
def Ae : Value → List Nat
 | .pointer (some a) => [a.block]
 | .slice (some a) _ _ => [a.block]
 | .agg cs => cs.toList.flatMap Xz
 | _ => []
structure K3 where
 rd : List Nat
 wt : List Nat
 hr : List Nat
 he : Nat
 ha : List Nat
 hb : Nat := 0
 gn : Bool := false
def F4 : X → List Nat
 | .t n => [n]
 | _ => []
def CK.ops : CK → List X
 | .mov x | .un _ x | .toInt _ x | .str x | .s2b _ x | .b2s x | .fld _ _ _ x | .ext x _ | .fadr _ x | .load _ _ x | .boxV x | .boxO x | .lenS x | .lenT x | .clr _ _ x | .nilc x => [x]
 | .pick c a b => [c, a, b]
 | .bin _ x y | .beq _ x y | .aeq _ _ x y | .idx x y | .idxA _ x y | .iadr _ x y | .iadrA _ _ x y | .store _ x y | .makeS _ _ _ x y | .mx x y | .mn x y | .app _ _ x y | .cpy _ x y => [x, y]
 | .build _ ps => ps.map fun p => p.2.2
 | .newV _ | .newO _ => []
 | .newD t _ => [.t t]
 | .mkV _ _ _ ps | .mkO _ _ _ ps => ps.map fun p => p.2
 | .slc _ x lo hi | .slcS x lo hi => x :: (lo.toList ++ hi.toList)
 | .slc3 _ x lo hi n3 => [x, lo, hi, n3]
 | .call _ args => args
 | .pureC _ args => args
 | .makeV _ _ _ x y => [x, y]
 | .appP _ _ t y => [.t t, y]
 | .buildP t _ _ ps => .t t :: ps.map fun p => p.2.2
 | .callV x args => x :: args
 | .fn _ caps => caps
def Bv (ρ : Nat → FV) (x : X) : List Nat × List Nat :=
 match Jz ρ x with
 | some (.hp id _ _) => ([], [id])
 | some (.box t _ _) => ([t], [])
 | none => ([], [])
def Un : FV → List Nat
 | .val v => Ae v
 | _ => []
def Aj (pw : Nat → Bool) (s : St) (k : CK) : K3 :=
 let rd := k.ops.flatMap F4
 match k with
 | .load _ _ x => { rd := rd ++ (Bv s.ρ x).1, wt := [], hr := (Bv s.ρ x).2, he := 0, ha := [] }
 | .fadr _ x | .iadrA _ _ x _ => { rd := rd ++ (Bv s.ρ x).1, wt := [], hr := [], he := 0, ha := [] }
 | .store _ x _ =>
  match Jz s.ρ x with
  | some (.box t _ _) => { rd := rd ++ [t], wt := [t], hr := [], he := 0, ha := [] }
  | _ => { rd := rd, wt := [], hr := [], he := 3, ha := [] }
 | .newV _ | .boxV _ => { rd := rd, wt := [], hr := [], he := 0, ha := [], gn := true }
 | .b2s x => { rd := rd, wt := [], hr := Un (ex s.ρ x), he := 0, ha := [] }
 | .newO _ | .boxO _ | .mkO .. | .makeS .. | .s2b .. => { rd := rd, wt := [], hr := [], he := 1, ha := [], hb := s.H.length }
 | .app _ _ x _ => { rd := rd, wt := [], hr := [], he := 2, ha := (match Av s.ρ x with | some v => Ae v | none => []), hb := s.H.length }
 | .cpy .. | .clr .. => { rd := rd, wt := [], hr := [], he := 3, ha := [] }
 | .appP _ _ t _ | .buildP t _ _ _ => { rd := rd, wt := [t], hr := [], he := 3, ha := [] }
 | .call .. | .callV .. =>
  match callee s k with
  | some (f, vs) => if pw f then { rd := rd, wt := [], hr := [], he := 1, ha := [], hb := s.H.length } else { rd := rd, wt := [], hr := [], he := 2, ha := vs.flatMap Ae, hb := s.H.length }
  | none => { rd := rd, wt := [], hr := [], he := 3, ha := [] }
 | _ => { rd := rd, wt := [], hr := [], he := 0, ha := [] }
def CO.on (o : CO) (ρ : Nat → FV) : Option Bool :=
 match o.g with
 | none => some true
 | some (t, b) =>
  match ρ t with
  | .val (.bool c) => some (c == b)
  | .val (.tuple _) => some false
  | _ => none
def Io (o : CO) : List Nat :=
 match o.g with
 | some (t, _) => [t]
 | none => []
def A1 (pw : Nat → Bool) (s : St) (o : CO) : K3 :=
 match o.on s.ρ with
 | some true => { Aj pw s o.k with rd := Io o ++ (Aj pw s o.k).rd, wt := o.dst.toList ++ (Aj pw s o.k).wt }
 | _ => { rd := Io o, wt := o.dst.toList, hr := [], he := 0, ha := [] }
def J9 (a b : List Nat) : Bool := a.all fun x => !b.contains x
def K3.calm (a b : K3) : Bool :=
 match a.he with
 | 0 => true
 | 1 => b.hr.all fun id => decide (id < a.hb)
 | 2 => b.hr.all fun id => decide (id < a.hb) && !a.ha.contains id
 | _ => b.hr.isEmpty
def K3.apart (a b : K3) : Bool :=
 J9 a.wt b.rd && J9 b.wt a.rd && J9 a.wt b.wt && !(a.gn && b.gn) && (a.he == 0 || b.he == 0) && a.calm b && b.calm a
def B0 : List (CO × K3) → Bool
 | [] => true
 | (o, i) :: rest => rest.all (fun p => p.1.pre.contains o.ix || i.apart p.2) && B0 rest
def Md.drawn (m : Md) (pw : Nat → Bool) (H : Hp) (f : Nat) (vs : List Value) : Md :=
 { m with wr := fun id => decide (H.length ≤ id) || (!pw f && m.wr id && (vs.flatMap Ae).contains id) }
structure Hb where
 fns : Nat → Option CF
 prim : Nat → Option (Md → List Value → Hp → Option (Value × Hp))
 pw : Nat → Bool
 tr : Nat → Bool
def Cb (vs : List Value) : Nat → FV := fun i => match vs[i]? with | some v => .val v | none => .junk
def Mr (s : St) : RV → Option Value
 | .t n => Av s.ρ (.t n)
 | .cell t n agg =>
  match Fe s n agg (.t t) with
  | some (.val v, _) => some v
  | _ => none
def Fd (s : St) : List RV → Option (List Value)
 | [] => some []
 | r :: rs =>
  match Mr s r, Fd s rs with
  | some v, some vs => some (v :: vs)
  | _, _ => none
def D5 (s : St) (rs : List RV) : Option Value :=
 match Fd s rs with
 | some [v] => some v
 | some vs => some (.tuple vs.toArray)
 | none => none
def Bp (E : Hb) (m : Md) (draw : Bool) (ev : Md → Nat → List Value → Hp → Option (Value × Hp)) (s : St) (k : CK) : Option (FV × St) :=
 match callee s k with
 | some (f, vs) =>
  match ev (if draw then m.drawn E.pw s.H f vs else m) f vs s.H with
  | some (r, H) => some (.val r, { s with H := H })
  | none => none
 | none => Ai m s k
def C3 (E : Hb) (m : Md) (draw : Bool) (ev : Md → Nat → List Value → Hp → Option (Value × Hp)) (s : St) (o : CO) : Option St :=
 match o.on s.ρ with
 | some true =>
  match Bp E m draw ev s o.k with
  | some (v, s') => some { s' with ρ := Ah s'.ρ o.dst v }
  | none => none
 | some false => some { s with ρ := Ah s.ρ o.dst (.val (.tuple #[])) }
 | none => none
def Gh (E : Hb) (m : Md) (draw : Bool) (ev : Md → Nat → List Value → Hp → Option (Value × Hp)) : List CO → St → Option St
 | [], s => some s
 | o :: os, s =>
  match C3 E m draw ev s o with
  | some s' => Gh E m draw ev os s'
  | none => none
def Ii (E : Hb) (m : Md) (ev : Md → Nat → List Value → Hp → Option (Value × Hp)) : List CO → St → List (CO × K3)
 | [], _ => []
 | o :: os, s =>
  match C3 E m true ev s o with
  | some s' => (o, A1 E.pw s o) :: Ii E m ev os s'
  | none => []
mutual
def Du (E : Hb) : Nat → Md → CC → St → Option (Ex × St)
 | 0, _, _, _ => none
 | _ + 1, _, .skip, s => some (.normal, s)
 | _ + 1, _, .exit id, s => some (.exit id, s)
 | _ + 1, _, .ret, s => some (.ret, s)
 | k + 1, m, .reg draw ops, s =>
  if draw = true ∧ B0 (Ii E m (K4 E k) ops s) = false then none else
  match Gh E m draw (K4 E k) ops s with
  | some s' => some (.normal, s')
  | none => none
 | k + 1, m, .seq a b, s =>
  match Du E k m a s with
  | some (.normal, s') => Du E k m b s'
  | r => r
 | k + 1, m, .cond c a b, s =>
  match Av s.ρ c with
  | some (.bool true) => Du E k m a s
  | some (.bool false) => Du E k m b s
  | _ => none
 | k + 1, m, .block id c, s =>
  match Du E k m c s with
  | some (.exit j, s') => if j = id then some (.normal, s') else some (.exit j, s')
  | r => r
 | k + 1, m, .loop c, s =>
  match Du E k m c s with
  | some (.normal, s') => Du E k m (.loop c) s'
  | r => r
def K4 (E : Hb) : Nat → Md → Nat → List Value → Hp → Option (Value × Hp)
 | 0, _, _, _, _ => none
 | k + 1, m, f, vs, H =>
  match E.prim f with
  | some p => p m vs H
  | none =>
  match E.fns f with
  | none => none
  | some cf =>
   if vs.length ≤ cf.nt then
    match Du E k { m with nr := m.nr || E.tr f } cf.body { ρ := Cb vs, gn := 1, H := H } with
    | some (.exit _, _) => none
    | some (_, s) =>
     match D5 s cf.res with
     | some v => if E.tr f then (if A8 v then some (v, s.H.take H.length) else none) else some (v, s.H)
     | none => none
    | none => none
   else none
end
def Q4 : Value → Bool
 | .agg cs => cs.toList.all scal
 | .tuple cs => cs.isEmpty
 | v => scal v
def cx : Operand → Option X
 | .tmp t => some (.t t)
 | .const v => if Q4 v then some (.c v) else none
 | .func f => some (.f f)
 | .global _ => none
def Pd : List Operand → Option (List X)
 | [] => some []
 | x :: xs =>
  match cx x, Pd xs with
  | some v, some vs => some (v :: vs)
  | _, _ => none
def cxo : Option Operand → Option (Option X)
 | none => some none
 | some x => (cx x).map some
def I0 : TypeDesc → Bool
 | .struct _ | .array _ _ => true
 | _ => false
def X4 (P : Program) (t : TypeId) : Option (Nat × Bool) :=
 match P.info? t, P.underlying t with
 | some i, some d => if I0 d then some (i.size, true) else if i.size = 1 then some (1, false) else none
 | _, _ => none
def Fv (P : Program) (t : TypeId) : Option (List Value) :=
 match P.info? t with
 | some i =>
  match i.zero with
  | some z => if (Ez z).length = i.size ∧ (Ez z).all scal = true ∧ 0 < i.size then some (Ez z) else none
  | none => none
 | none => none
def Ee (P : Program) : List Field → Nat → Option (List Nat)
 | [], _ => some []
 | f :: fs, k =>
  if f.offset = k ∧ f.name ≠ "_" then
   match P.underlying f.type, Ee P fs (k + 1) with
   | some (.int _), some ks => some (0 :: ks)
   | some .bool, some ks => some (1 :: ks)
   | some .string, some ks => some (2 :: ks)
   | _, _ => none
  else none
def N1 (P : Program) (fs : Array Field) : List (Nat × Operand) → Option (List (Nat × Nat × X))
 | [] => some []
 | p :: ps =>
  match fs[p.1]?, cx p.2, N1 P fs ps with
  | some f, some x, some r =>
   match P.info? f.type with
   | some i => some ((f.offset, i.size, x) :: r)
   | none => none
  | _, _, _ => none
def N5 (n : Nat) : List (Nat × Operand) → Option (List (Nat × Nat × X))
 | [] => some []
 | p :: ps =>
  match cx p.2, N5 n ps with
  | some x, some r => some ((p.1 * n, n, x) :: r)
  | _, _ => none
def Ln (P : Program) (t : TypeId) (ps : List (Nat × Operand)) : Option (List (Nat × Nat × X)) :=
 match P.underlying t with
 | some (.struct fs) => N1 P fs ps
 | some (.array _ e) =>
  match P.info? e with
  | some i => N5 i.size ps
  | none => none
 | _ => none
def S6 (P : Program) (fs : Array Field) : Bool := fs.toList.all fun f => (P.info? f.type).isSome
def fJ (hv : Nat → Bool) (esz bytes : Nat) (x y : X) : CK :=
 match x with
 | .t t => if hv t = true then .appP esz bytes t y else .app esz bytes x y
 | _ => .app esz bytes x y
def Ot (P : Program) (hv : Nat → Bool) (fs : Array Field) : List (Nat × Operand) → Option (Nat × Nat)
 | [] => none
 | (i, x) :: ps =>
  match cx x, fs[i]? with
  | some (.t t), some f =>
   if hv t = true then
    match P.underlying f.type with
    | some (.slice e) =>
     match P.info? e with
     | some inf => some (t, inf.size)
     | none => Ot P hv fs ps
    | _ => Ot P hv fs ps
   else Ot P hv fs ps
  | _, _ => Ot P hv fs ps
def Vj (P : Program) (hv : Nat → Bool) (fs : Array Field) (ps : List (Nat × Operand)) (z : List Value) (xs : List (Nat × Nat × X)) : CK :=
 match Ot P hv fs ps with
 | some (t, n) => .buildP t n z xs
 | none => .build z xs
def Og (P : Program) (hv : Nat → Bool) (dst : Option Nat) (o : Oper) : Option CK :=
 match o.op with
 | .move x => do pure (.mov (← cx x))
 | .assign x => do pure (.mov (← cx x))
 | .pick c a b => do pure (.pick (← cx c) (← cx a) (← cx b))
 | .alloc t => do
  let z ← Fv P t
  let d ← dst
  pure (if hv d then (if hv (d + 1000) then .newD d z else .newV z) else .newO z)
 | .box t x => do
  let d ← dst
  let x ← cx x
  pure (if hv d then .boxV x else .boxO x)
 | .build t ps => do
  let i ← P.info? t
  let z ← i.zero
  match z, P.underlying t with
  | .agg cs, some (.struct fs) => if S6 P fs && cs.toList.all scal then do
    let xs ← Ln P t ps.toList
    pure (Vj P hv fs ps.toList cs.toList xs) else none
  | .agg cs, some (.array _ _) => if cs.toList.all scal then do pure (.build cs.toList (← Ln P t ps.toList)) else none
  | _, _ => none
 | .buildSlice t len ps => do
  let .slice e ← P.underlying t | none
  let z ← Fv P e
  let d ← dst
  let xs ← ps.toList.mapM fun p => do pure (p.1, ← cx p.2)
  if len * z.length ≤ 16777216 then
   pure (if hv d then .mkV len z.length z xs else .mkO len z.length z xs)
  else none
 | .load t x => do
  let (n, agg) ← X4 P t
  pure (.load n agg (← cx x))
 | .store t x v =>
  match dst with
  | none => do
   let (n, _) ← X4 P t
   pure (.store n (← cx x) (← cx v))
  | some _ => none
 | .nilCheck x => do pure (.nilc (← cx x))
 | .binOp op t x y _ => do
  let x ← cx x
  let y ← cx y
  match P.underlying t with
  | some .bool =>
   match op with
   | .eql => pure (.beq false x y)
   | .neq => pure (.beq true x y)
   | _ => none
  | some (.struct fs) =>
   match Ee P fs.toList 0 with
   | some ks =>
    if P.stoodInHeld t || P.eqGuardType P.depth t then none else
    match op with
    | .eql => pure (.aeq false ks x y)
    | .neq => pure (.aeq true ks x y)
    | _ => none
   | none => none
  | some (.int _) => pure (.bin op x y)
  | some .string => pure (.bin op x y)
  | _ => none
 | .unOp op _ x => do pure (.un op (← cx x))
 | .convert s d x => do
  let x ← cx x
  match P.underlying s, P.underlying d with
  | some (.int _), some (.int k) => pure (.toInt k x)
  | some .string, some .string => pure (.str x)
  | some .string, some (.slice e) =>
   match P.underlying e, P.info? e with
   | some (.int .u8), some i => if i.size = 1 then pure (.s2b 1 x) else none
   | _, _ => none
  | some (.slice e), some .string =>
   match P.underlying e, P.info? e with
   | some (.int .u8), some i => if i.size = 1 then pure (.b2s x) else none
   | _, _ => none
  | _, _ => none
 | .makeFunc (.func f) first caps => if first.isEmpty then do pure (.fn f (← Pd caps.toList)) else none
 | .makeSlice t l c => do
  let .slice e ← P.underlying t | none
  let z ← Fv P e
  let i ← P.info? e
  let x ← cx l
  let y ← cx c
  pure (if (dst.map hv) = some true then .makeV z.length i.bytes z x y else .makeS z.length i.bytes z x y)
 | .slice t x (some lo) (some hi) (some mx) => do
  let x ← cx x
  let lo ← cx lo
  let hi ← cx hi
  let mx ← cx mx
  let .slice e ← P.underlying t | none
  let i ← P.info? e
  if i.size = 0 then none else pure (.slc3 i.size x lo hi mx)
 | .slice t x lo hi mx =>
  if mx.isSome then none else do
  let x ← cx x
  let lo ← cxo lo
  let hi ← cxo hi
  match P.underlying t with
  | some .string => pure (.slcS x lo hi)
  | some (.slice e) => do
   let i ← P.info? e
   if i.size = 0 then none else pure (.slc i.size x lo hi)
  | _ => none
 | .fieldAddr t x f => do
  let .struct fs ← P.underlying t | none
  let f ← fs[f]?
  let i ← P.info? f.type
  if i.size = 0 then none else pure (.fadr f.offset (← cx x))
 | .field t x f => do
  let .struct fs ← P.underlying t | none
  let f ← fs[f]?
  let (n, agg) ← X4 P f.type
  pure (.fld f.offset n agg (← cx x))
 | .indexAddr t x ix => do
  let x ← cx x
  let ix ← cx ix
  match P.underlying t with
  | some (.slice e) => do
   let i ← P.info? e
   pure (.iadr i.size x ix)
  | some (.array n e) => do
   let i ← P.info? e
   pure (.iadrA n i.size x ix)
  | _ => none
 | .index t x ix => do
  match P.underlying t with
  | some .string => pure (.idx (← cx x) (← cx ix))
  | some (.array n e) => do
   let (k, agg) ← X4 P e
   if k = 1 ∧ agg = false then pure (.idxA n (← cx x) (← cx ix)) else none
  | _ => none
 | .extract x i => do pure (.ext (← cx x) i)
 | .call c =>
  match c.callee with
  | .value (.func f) => do
   let fn ← P.funcs[f]?
   if fn.body.isSome && !(fn.name == "runtime.NumGoroutine") then pure (.call f (← Pd c.args.toList)) else none
  | .value x => do pure (.callV (← cx x) (← Pd c.args.toList))
  | .builtin b => do
   let t ← c.argTypes[0]?
   let d ← P.underlying t
   let xs ← Pd c.args.toList
   match b, d, xs with
   | .len, .string, [x] => pure (.lenT x)
   | .len, .slice _, [x] => pure (.lenS x)
   | .max, .int _, [x, y] => pure (.mx x y)
   | .min, .int _, [x, y] => pure (.mn x y)
   | .append, .slice e, [x, y] => do
    let t2 ← c.argTypes[1]?
    let .slice _ ← P.underlying t2 | none
    let i ← P.info? e
    let z ← Fv P e
    if i.bytes = 0 ∨ z.length ≠ i.size then none else pure (fJ hv i.size i.bytes x y)
   | .copy, .slice e, [x, y] => do
    let i ← P.info? e
    pure (.cpy i.size x y)
   | .clear, .slice e, [x] => do
    let z ← Fv P e
    pure (.clr z.length z x)
   | _, _, _ => none
  | _ => none
 | _ => none
def CK.isCall : CK → Bool
 | .call .. | .callV .. => true
 | _ => false
def Nk (k : Option CK) : Option CK :=
 match k with
 | some k => if k.isCall = true then none else some k
 | none => none
def Si (P : Program) (f : FuncId) (args : List Operand) : Option CK :=
 match P.funcs[f]?, Pd args with
 | some fn, some xs => if fn.body.isSome = true ∧ (fn.name == "runtime.NumGoroutine") = false then some (.call f xs) else none
 | _, _ => none
def Tf (f : FuncId) (args : List Operand) : Option CK :=
 match Pd args with
 | some xs => some (.pureC f xs)
 | none => none
def Qp (x : Operand) (args : List Operand) : Option CK :=
 match cx x, Pd args with
 | some x, some xs => some (.callV x xs)
 | _, _ => none
def Wv (P : Program) (hv : Nat → Bool) (dst : Option Nat) (o : Oper) : Option CK :=
 match o.op with
 | .call c =>
  match c.callee with
  | .value (.func f) => if (dst.map hv) = some true ∧ (f = 51 ∨ f = 152) then Tf f c.args.toList else Si P f c.args.toList
  | .value x => Qp x c.args.toList
  | _ => Nk (Og P hv dst o)
 | _ => Nk (Og P hv dst o)
def G1 (e : Edge) : Bool :=
 match e.ground with
 | .data | .chain | .guard | .phase => true
 | _ => false
def Mu : List Oper → List (List Nat) → List (List Nat)
 | [], acc => acc
 | o :: os, acc => Mu os (acc ++ [((o.after.toList.filter G1).flatMap fun e => e.on :: acc.getD e.on []).eraseDups])
def No (ops : Array Oper) (o : Oper) : Option (Option (Nat × Bool)) :=
 match o.guard with
 | none => some none
 | some (j, b) =>
  match ops[j]? with
  | some p =>
   match p.dst with
   | some t => some (some (t, b))
   | none => none
  | none => none
def eV (nt : Nat) (d : Option Tmp) : Bool :=
 match d with
 | some d => decide (d < nt)
 | none => true
def M3 (P : Program) (hv : Nat → Bool) (nt : Nat) (ops : Array Oper) (draw : Bool) (pre : List (List Nat)) (i : Nat) (o : Oper) : Option CO :=
 match Wv P hv o.dst o, No ops o with
 | some k, some g =>
  if (draw = true → o.after.toList.all (fun e => !G1 e || decide (e.on < i)) = true) ∧ eV nt o.dst = true then
   some { dst := o.dst, g := g, k := k, ix := i, pre := if draw = true then pre.getD i [] else [] }
  else none
 | _, _ => none
def Ko (P : Program) (hv : Nat → Bool) (nt : Nat) (ops : Array Oper) (draw : Bool) (pre : List (List Nat)) : Nat → List Oper → Option (List CO)
 | _, [] => some []
 | i, o :: os =>
  match M3 P hv nt ops draw pre i o, Ko P hv nt ops draw pre (i + 1) os with
  | some c, some cs => some (c :: cs)
  | _, _ => none
def Fs (P : Program) (hv : Nat → Bool) (nt : Nat) : Code → Option CC
 | .skip => some .skip
 | .region _ ops draw =>
  match Ko P hv nt ops draw (if draw = true then Mu ops.toList [] else []) 0 ops.toList with
  | some cs => some (.reg draw cs)
  | none => some (.cond (.c (.tuple #[])) .skip .skip)
 | .seq a b =>
  match Fs P hv nt a, Fs P hv nt b with
  | some a, some b => some (.seq a b)
  | _, _ => none
 | .cond c a b =>
  match cx c, Fs P hv nt a, Fs P hv nt b with
  | some c, some a, some b => some (.cond c a b)
  | _, _, _ => none
 | .block id c =>
  match Fs P hv nt c with
  | some c => some (.block id c)
  | none => none
 | .loop c =>
  match Fs P hv nt c with
  | some c => some (.loop c)
  | none => none
 | .exit id => some (.exit id)
 | .ret => some .ret
 | _ => none
def Nd (P : Program) : List ResultVar → Option (List RV)
 | [] => some []
 | .tmp t :: rs =>
  match Nd P rs with
  | some r => some (.t t :: r)
  | none => none
 | .cell a t :: rs =>
  match X4 P t, Nd P rs with
  | some (n, agg), some r => some (.cell a n agg :: r)
  | _, _ => none
def eL (P : Program) (hv : Nat → Bool) (fn : Func) : Option CF :=
 match fn.body with
 | none => none
 | some b =>
  match Fs P hv fn.ntmps b, Nd P fn.results.toList with
  | some c, some r => some { nt := fn.ntmps, body := c, res := r }
  | _, _ => none
def Py (P : Program) (hv : Nat → Nat → Bool) (f : Nat) : Option CF :=
 match P.funcs[f]? with
 | some fn => if (fn.name == "runtime.NumGoroutine") = true then none else eL P (hv f) fn
 | none => none
structure dU where
 b : Nat
 sh : Nat
 sz : Nat
abbrev Bk := Nat → Option dU
inductive A9 (J : Bk) (H : Hp) : Value → Value → Prop
 | int (k : IntKind) (n : Int) : A9 J H (.int k n) (.int k n)
 | bool (b : Bool) : A9 J H (.bool b) (.bool b)
 | str (s : ByteArray) : A9 J H (.string s) (.string s)
 | nptr : A9 J H (.pointer none) (.pointer none)
 | nsl : A9 J H (.slice none 0 0) (.slice none 0 0)
 | nfn : A9 J H .nilFunc .nilFunc
 | ptr (id off gen : Nat) (o : List Value) (a : Addr) (h : H[id]? = some o) (hg : gen ≤ o.length)
   (hv : gen = o.length → ∃ l, J id = some l ∧ a = ⟨l.b, l.sh + off, none⟩) : A9 J H (.pointer (some ⟨id, off, some gen⟩)) (.pointer (some a))
 | sl (id off e len cap : Nat) (o : List Value) (a : Addr) (ccap : Nat) (h : H[id]? = some o) (hg : off + cap ≤ o.length) (hl : len ≤ ccap) (hc : cap ≤ ccap * e)
   (hv : off + cap = o.length → ∃ l, J id = some l ∧ ((len = 0 ∧ ccap = 0) ∨ (a = ⟨l.b, l.sh + off, none⟩ ∧ l.sh + off + ccap * e ≤ l.sz))) :
   A9 J H (.slice (some ⟨id, off, some e⟩) len cap) (.slice (some a) len ccap)
 | agg (cs ds : Array Value) (hs : cs.size = ds.size) (h1 : ∀ i : Nat, ∀ x, cs[i]? = some x → x.oneCell' = true)
   (h : ∀ i : Nat, ∀ x y, cs[i]? = some x → ds[i]? = some y → A9 J H x y) : A9 J H (.agg cs) (.agg ds)
 | tup (cs ds : Array Value) (hs : cs.size = ds.size) (h : ∀ i : Nat, ∀ x y, cs[i]? = some x → ds[i]? = some y → A9 J H x y) : A9 J H (.tuple cs) (.tuple ds)
 | fn (f : Nat) (cs ds : Array Value) (hs : cs.size = ds.size) (h : ∀ i : Nat, ∀ x y, cs[i]? = some x → ds[i]? = some y → A9 J H x y) :
   A9 J H (.func (.func f) #[] cs) (.func (.func f) #[] ds)
theorem A9.one {J : Bk} {H : Hp} {v c : Value} (h : A9 J H v c) : v.oneCell' = c.oneCell' := by cases h <;> rfl
theorem A9.scal {J : Bk} {H : Hp} {v : Value} (h : scal v = true) : A9 J H v v := by
 unfold Ev.scal at h
 split at h <;> first | exact .int _ _ | exact .bool _ | exact .str _ | exact .nptr | exact .nsl | exact .nfn | cases h
theorem A9.of_scal {J : Bk} {H : Hp} {v c : Value} (hr : A9 J H v c) (h : Ev.scal v = true) : c = v := by
 cases hr <;> first | rfl | (simp [Ev.scal] at h)
theorem Tg {v : Value} (h : scal v = true) : v.oneCell' = true := by
 unfold Ev.scal at h
 split at h <;> first | rfl | cases h
def Lx (J : Bk) (H : Hp) (J' : Bk) (H' : Hp) : Prop :=
 ∀ (id : Nat) (o : List Value), H[id]? = some o → ∃ o', H'[id]? = some o' ∧ (o.length < o'.length ∨ (o'.length = o.length ∧ J' id = J id))
theorem Lx.refl (J : Bk) (H : Hp) : Lx J H J H := fun _ o h => ⟨o, h, .inr ⟨rfl, rfl⟩⟩
theorem Lx.trans {J J' J'' : Bk} {H H' H'' : Hp} (h : Lx J H J' H') (k : Lx J' H' J'' H'') : Lx J H J'' H'' := fun id o ho => by
 obtain ⟨o', h1, h2⟩ := h id o ho
 obtain ⟨o'', k1, k2⟩ := k id o' h1
 refine ⟨o'', k1, ?_⟩
 rcases h2 with h2 | ⟨h2, h3⟩ <;> rcases k2 with k2 | ⟨k2, k3⟩
 ·exact .inl (by omega)
 ·exact .inl (by omega)
 ·exact .inl (by omega)
 ·exact .inr ⟨by omega, k3.trans h3⟩
theorem A9.keep {J J' : Bk} {H H' : Hp} (hk : Lx J H J' H') {v c : Value} (h : A9 J H v c) : A9 J' H' v c := by
 induction h with
 | int k n => exact .int k n
 | bool b => exact .bool b
 | str s => exact .str s
 | nptr => exact .nptr
 | nsl => exact .nsl
 | nfn => exact .nfn
 | ptr id off gen o a h hg hv =>
  obtain ⟨o', h1, h2⟩ := hk id o h
  refine .ptr id off gen o' a h1 (by omega) fun e => ?_
  rcases h2 with h2 | ⟨h2, h3⟩
  ·omega
  ·obtain ⟨l, hl, ha⟩ := hv (by omega)
   exact ⟨l, h3.trans hl, ha⟩
 | sl id off e len cap o a ccap h hg hl hc hv =>
  obtain ⟨o', h1, h2⟩ := hk id o h
  refine .sl id off e len cap o' a ccap h1 (by omega) hl hc fun e => ?_
  rcases h2 with h2 | ⟨h2, h3⟩
  ·omega
  ·obtain ⟨l, hl, ha⟩ := hv (by omega)
   exact ⟨l, h3.trans hl, ha⟩
 | agg cs ds hs h1 h ih => exact .agg cs ds hs h1 ih
 | tup cs ds hs h ih => exact .tup cs ds hs ih
 | fn f cs ds hs h ih => exact .fn f cs ds hs ih
def A7 (J : Bk) (H : Hp) (cs ds : List Value) : Prop :=
 cs.length = ds.length ∧ ∀ (i : Nat) (x y : Value), cs[i]? = some x → ds[i]? = some y → A9 J H x y
theorem A7.keep {J J' : Bk} {H H' : Hp} (hk : Lx J H J' H') {cs ds : List Value} (h : A7 J H cs ds) : A7 J' H' cs ds :=
 ⟨h.1, fun i x y hx hy => (h.2 i x y hx hy).keep hk⟩
theorem A7.nil {J : Bk} {H : Hp} : A7 J H [] [] := ⟨rfl, fun i x y hx => by simp at hx⟩
theorem A7.cons {J : Bk} {H : Hp} {v c : Value} {cs ds : List Value} (h : A9 J H v c) (hs : A7 J H cs ds) : A7 J H (v :: cs) (c :: ds) := by
 refine ⟨by simp [hs.1], fun i x y hx hy => ?_⟩
 cases i with
 | zero => simp at hx hy; subst hx; subst hy; exact h
 | succ i => simp at hx hy; exact hs.2 i x y hx hy
theorem A7.get {J : Bk} {H : Hp} {cs ds : List Value} (h : A7 J H cs ds) {i : Nat} {x : Value} (hx : cs[i]? = some x) : ∃ y, ds[i]? = some y ∧ A9 J H x y := by
 have hi : i < cs.length := by
  have := (Em hx).1
  exact this
 have hd : i < ds.length := by rw [← h.1]; exact hi
 exact ⟨ds[i], B7 hd, h.2 i x _ hx (B7 hd)⟩
theorem A7.append {J : Bk} {H : Hp} {cs ds cs' ds' : List Value} (h : A7 J H cs ds) (h' : A7 J H cs' ds') : A7 J H (cs ++ cs') (ds ++ ds') := by
 refine ⟨by simp [h.1, h'.1], fun i x y hx hy => ?_⟩
 by_cases hi : i < cs.length
 ·rw [List.getElem?_append_left hi] at hx
  rw [List.getElem?_append_left (by rw [← h.1]; exact hi)] at hy
  exact h.2 i x y hx hy
 ·rw [List.getElem?_append_right (by omega)] at hx
  rw [List.getElem?_append_right (by have := h.1; omega)] at hy
  rw [h.1] at hx
  exact h'.2 _ x y hx hy
theorem A7.drop {J : Bk} {H : Hp} {cs ds : List Value} (h : A7 J H cs ds) (n : Nat) : A7 J H (cs.drop n) (ds.drop n) :=
 ⟨by simp [h.1], fun i x y hx hy => by rw [List.getElem?_drop] at hx hy; exact h.2 _ x y hx hy⟩
theorem A7.take {J : Bk} {H : Hp} {cs ds : List Value} (h : A7 J H cs ds) (n : Nat) : A7 J H (cs.take n) (ds.take n) :=
 ⟨by simp [h.1], fun i x y hx hy => by
  rw [List.getElem?_take] at hx hy
  by_cases hi : i < n
  ·rw [if_pos hi] at hx hy
   exact h.2 i x y hx hy
  ·rw [if_neg hi] at hx
   cases hx⟩
theorem A7.set {J : Bk} {H : Hp} {cs ds : List Value} (h : A7 J H cs ds) {v c : Value} (hv : A9 J H v c) (n : Nat) : A7 J H (cs.set n v) (ds.set n c) :=
 ⟨by simp [h.1], fun i x y hx hy => by
  rw [List.getElem?_set] at hx hy
  by_cases hi : n = i
  ·subst hi
   by_cases hn : n < cs.length
   ·rw [if_pos rfl, if_pos hn] at hx
    rw [if_pos rfl, if_pos (by rw [← h.1]; exact hn)] at hy
    cases hx; cases hy; exact hv
   ·rw [if_pos rfl, if_neg hn] at hx
    cases hx
  ·rw [if_neg hi] at hx hy
   exact h.2 i x y hx hy⟩
theorem Cq : ∀ (vs : List Value) (o : List Value) (i : Nat), (spl o i vs).length = o.length
 | [], _, _ => rfl
 | v :: vs, o, i => by rw [spl, Cq vs]; simp
theorem A7.spl {J : Bk} {H : Hp} : ∀ {vs ws : List Value} {cs ds : List Value}, A7 J H vs ws → A7 J H cs ds → ∀ i, A7 J H (Ev.spl cs i vs) (Ev.spl ds i ws)
 | [], [], _, _, _, h, _ => h
 | [], _ :: _, _, _, hv, _, _ => by have := hv.1; simp at this
 | _ :: _, [], _, _, hv, _, _ => by have := hv.1; simp at this
 | v :: vs, w :: ws, cs, ds, hv, h, i => by
  have hvw : A9 J H v w := hv.2 0 v w (by simp) (by simp)
  have hvs : A7 J H vs ws := ⟨by have := hv.1; simpa using this, fun j x y hx hy => hv.2 (j + 1) x y (by simpa using hx) (by simpa using hy)⟩
  exact A7.spl hvs (h.set hvw i) (i + 1)
theorem A7.scal {J : Bk} {H : Hp} {cs : List Value} (h : cs.all Ev.scal = true) : A7 J H cs cs :=
 ⟨rfl, fun i x y hx hy => by
  have : x = y := by rw [hx] at hy; exact Option.some.inj hy
  subst this
  exact A9.scal (List.all_eq_true.1 h x (List.mem_of_getElem? hx))⟩
theorem A9.cells {J : Bk} {H : Hp} {v c : Value} (h : A9 J H v c) : A7 J H (Ez v) (c.cells.toList) := by
 have single : ∀ {v c : Value}, A9 J H v c → A7 J H [v] [c] := fun h => .cons h .nil
 cases h with
 | agg cs ds hs h1 h =>
  refine ⟨by simpa [Ez, Value.cells] using hs, fun i x y hx hy => h i x y ?_ ?_⟩
  ·simpa [Ez] using hx
  ·simpa [Value.cells] using hy
 | int k n => exact single (.int k n)
 | bool b => exact single (.bool b)
 | str s => exact single (.str s)
 | nptr => exact single .nptr
 | nsl => exact single .nsl
 | nfn => exact single .nfn
 | ptr id off gen o a h hg hv => exact single (.ptr id off gen o a h hg hv)
 | sl id off e len cap o a ccap h hg hl hc hv => exact single (.sl id off e len cap o a ccap h hg hl hc hv)
 | tup cs ds hs h => exact single (.tup cs ds hs h)
 | fn f cs ds hs h => exact single (.fn f cs ds hs h)
structure Dx (B : Nat) (J : Bk) (H : Hp) (w : World) : Prop where
 row : ∀ (id : Nat) (o : List Value), H[id]? = some o → ∃ (l : dU) (ds : Array Value) (e : TypeId) (lo hi : Nat), J id = some l ∧ w.heap[l.b]? = some (.cells ds e (lo, hi)) ∧ ds.size = l.sz ∧
  l.sh + o.length ≤ l.sz ∧ (∀ (i : Nat) (v : Value), o[i]? = some v → v.oneCell' = true ∧ ∃ d, ds[l.sh + i]? = some d ∧ A9 J H v d) ∧
  (B ≤ id → ∀ i, l.sh ≤ i → i < l.sz → ¬ (lo ≤ i ∧ i < hi))
 uni : ∀ id id' l l', id ≠ id' → B ≤ id → J id = some l → J id' = some l' → l.b ≠ l'.b
 dom : ∀ id, H.length ≤ id → J id = none
structure Tr (B N : Nat) (J : Bk) (H : Hp) (w : World) (J' : Bk) (H' : Hp) (w' : World) : Prop where
 keep : Lx J H J' H'
 frame : ∀ b, b < N → (∀ id l, J id = some l → B ≤ id → l.b ≠ b) → w'.heap[b]? = w.heap[b]?
 img : ∀ id l', J' id = some l' → (∃ l, J id = some l ∧ l.b = l'.b) ∨ N ≤ l'.b
 grow : w.heap.size ≤ w'.heap.size
 os : w'.os = w.os
 tape : w'.tape = w.tape
 output : w'.output = w.output
theorem Tr.refl (B N : Nat) (J : Bk) (H : Hp) (w : World) : Tr B N J H w J H w :=
 ⟨.refl _ _, fun _ _ _ => rfl, fun _ l' h => .inl ⟨l', h, rfl⟩, Nat.le_refl _, rfl, rfl, rfl⟩
theorem Tr.trans {B N : Nat} {J J' J'' : Bk} {H H' H'' : Hp} {w w' w'' : World} (h : Tr B N J H w J' H' w') (k : Tr B N J' H' w' J'' H'' w'') : Tr B N J H w J'' H'' w'' := by
 refine ⟨h.keep.trans k.keep, fun b hb hn => ?_, fun id l'' hl => ?_, C8 h.grow k.grow, k.os.trans h.os, k.tape.trans h.tape, k.output.trans h.output⟩
 ·rw [k.frame b hb ?_, h.frame b hb hn]
  intro id l' hl hB he
  rcases h.img id l' hl with ⟨l, hl0, hb0⟩ | hN
  ·exact hn id l hl0 hB (hb0.trans he)
  ·omega
 ·rcases k.img id l'' hl with ⟨l', hl', hb'⟩ | hN
  ·rcases h.img id l' hl' with ⟨l, hl0, hb0⟩ | hN
   ·exact .inl ⟨l, hl0, hb0.trans hb'⟩
   ·exact .inr (by omega)
  ·exact .inr hN
theorem Tr.mono {B N N' : Nat} {J J' : Bk} {H H' : Hp} {w w' : World} (h : Tr B N J H w J' H' w') (hN : N' ≤ N) : Tr B N' J H w J' H' w' :=
 ⟨h.keep, fun b hb hn => h.frame b (by omega) hn, fun id l' hl => (h.img id l' hl).imp (fun x => x) (fun x => by omega), h.grow, h.os, h.tape, h.output⟩
def Pf (J : Bk) (H : Hp) (w : World) (ρ : Nat → FV) (tmps : Array Value) (own : Nat → Option Nat) (t : Nat) : Prop :=
 match ρ t with
 | .val v => A9 J H v (tmps.getD t undef)
 | .bx _ cs => ∃ b ds e, own t = some b ∧ tmps.getD t undef = .pointer (some ⟨b, 0, none⟩) ∧ w.heap[b]? = some (.cells ds e (0, 0)) ∧ A7 J H cs ds.toList ∧ ∀ v ∈ cs, v.oneCell' = true
 | .vp t' g off => ∀ cs, ρ t' = .bx g cs → ∃ b, own t' = some b ∧ tmps.getD t undef = .pointer (some ⟨b, off, none⟩)
 | .vs n cs => ∃ b ds e, own t = some b ∧ tmps.getD t undef = .slice (some ⟨b, 0, none⟩) n n ∧ w.heap[b]? = some (.cells ds e (0, 0)) ∧ A7 J H cs ds.toList ∧ ∀ v ∈ cs, v.oneCell' = true
 | .junk => True
structure K8 (N : Nat) (J : Bk) (H : Hp) (w : World) (ρ : Nat → FV) (gn : Nat) (tmps : Array Value) (own : Nat → Option Nat) : Prop where
 ok : ∀ t, Pf J H w ρ tmps own t
 inj : ∀ t t' b, own t = some b → own t' = some b → t = t'
 out : ∀ t b, own t = some b → N ≤ b ∧ b < w.heap.size ∧ ∀ id l, J id = some l → l.b ≠ b
 gbx : ∀ t g cs, ρ t = .bx g cs → g < gn
 gvp : ∀ t t' g off, ρ t = .vp t' g off → g < gn ∧ ρ t' ≠ .junk
 gpos : 0 < gn
structure B9 (B N nt : Nat) (J : Bk) (s : St) (a : Act) (w : World) : Prop where
 wr : Dx B J s.H w
 fr : ∃ own, K8 N J s.H w s.ρ s.gn a.tmps own
 df : a.defers = []
 sz : a.tmps.size = nt
 hN : N ≤ w.heap.size
theorem K8.move {B N : Nat} {J J' : Bk} {H H' : Hp} {w w' : World} {ρ : Nat → FV} {gn : Nat} {tmps : Array Value} {own : Nat → Option Nat}
  (h : K8 N J H w ρ gn tmps own) (t : Tr B w.heap.size J H w J' H' w') : K8 N J' H' w' ρ gn tmps own := by
 have hb : ∀ x b, own x = some b → w'.heap[b]? = w.heap[b]? := fun x b hx => by
  obtain ⟨_, h2, h3⟩ := h.out x b hx
  exact t.frame b h2 fun id l hl _ => h3 id l hl
 refine ⟨fun x => ?_, h.inj, fun x b hx => ?_, h.gbx, h.gvp, h.gpos⟩
 ·have hx := h.ok x
  unfold Pf at hx ⊢
  split
  ·rename_i v hv; simp only [hv] at hx; exact hx.keep t.keep
  ·rename_i g cs hv
   simp only [hv] at hx
   obtain ⟨b, ds, e, h1, h2, h3, h4, h5⟩ := hx
   exact ⟨b, ds, e, h1, h2, by rw [hb x b h1]; exact h3, h4.keep t.keep, h5⟩
  ·rename_i t' g off hv; simp only [hv] at hx; exact hx
  ·rename_i n cs hv
   simp only [hv] at hx
   obtain ⟨b, ds, e, h1, h2, h3, h4, h5⟩ := hx
   exact ⟨b, ds, e, h1, h2, by rw [hb x b h1]; exact h3, h4.keep t.keep, h5⟩
  ·trivial
 ·obtain ⟨h1, h2, h3⟩ := h.out x b hx
  refine ⟨h1, J3 h2 t.grow, fun id l hl he => ?_⟩
  rcases t.img id l hl with ⟨l0, hl0, hb0⟩ | hN
  ·exact h3 id l0 hl0 (hb0.trans he)
  ·omega
theorem B9.move {B N nt : Nat} {J J' : Bk} {s : St} {H' : Hp} {a : Act} {w w' : World} (h : B9 B N nt J s a w) (t : Tr B w.heap.size J s.H w J' H' w') (hw : Dx B J' H' w') :
  B9 B N nt J' { s with H := H' } a w' :=
 ⟨hw, let ⟨own, ho⟩ := h.fr; ⟨own, ho.move t⟩, h.df, h.sz, C8 h.hN t.grow⟩
theorem Bj (ρ : Nat → FV) (d : Nat) (v : FV) : Ah ρ (some d) v d = v := by simp [Ah]
theorem Da (ρ : Nat → FV) {d t : Nat} (v : FV) (h : t ≠ d) : Ah ρ (some d) v t = ρ t := by simp [Ah, h]
theorem Ea (a : Array Value) (d : Nat) (v : Value) (h : d < a.size) : (a.setIfInBounds d v).getD d undef = v := by
 simp [Array.getD, h]
theorem Tj (a : Array Value) {d t : Nat} (v : Value) (h : t ≠ d) : (a.setIfInBounds d v).getD t undef = a.getD t undef := by
 simp only [Array.getD_eq_getD_getElem?]
 rw [Array.getElem?_setIfInBounds_ne (Ne.symm h)]
theorem K8.put {N : Nat} {J : Bk} {H : Hp} {w : World} {ρ : Nat → FV} {gn gn' : Nat} {tmps : Array Value} {own : Nat → Option Nat} (h : K8 N J H w ρ gn tmps own) (hg : gn ≤ gn')
  {d : Nat} (hd : d < tmps.size) {f : FV} {v : Value} {ob : Option Nat}
  (hf : Pf J H w (Ah ρ (some d) f) (tmps.setIfInBounds d v) (fun t => if t = d then ob else own t) d)
  (hob : ∀ b, ob = some b → (N ≤ b ∧ b < w.heap.size ∧ ∀ id l, J id = some l → l.b ≠ b) ∧ ∀ t, own t ≠ some b)
  (hgb : ∀ g cs, f = .bx g cs → g < gn' ∧ (gn ≤ g ∨ ρ d = .junk)) (hgv : ∀ t g off, f = .vp t g off → g < gn' ∧ ρ t ≠ .junk) (hj : f ≠ .junk) :
  K8 N J H w (Ah ρ (some d) f) gn' (tmps.setIfInBounds d v) (fun t => if t = d then ob else own t) := by
 refine ⟨fun t => ?_, fun t t' b ht ht' => ?_, fun t b ht => ?_, fun t g cs ht => ?_, fun t t' g off ht => ?_, J3 h.gpos hg⟩
 ·by_cases e : t = d
  ·subst e; exact hf
  ·have hx := h.ok t
   unfold Pf at hx ⊢
   rw [Da _ _ e, Tj _ _ e]
   simp only [if_neg e]
   split
   ·rename_i u hu; simp only [hu] at hx; exact hx
   ·rename_i g cs hu; simp only [hu] at hx; exact hx
   ·rename_i t' g off hu
    simp only [hu] at hx
    intro cs hcs
    by_cases e' : t' = d
    ·subst e'
     rw [Bj] at hcs
     have h1 := hgb g cs hcs
     have h2 := h.gvp t t' g off hu
     rcases h1.2 with h3 | h3
     ·omega
     ·exact absurd h3 h2.2
    ·rw [Da _ _ e'] at hcs
     rw [if_neg e']
     exact hx cs hcs
   ·rename_i n cs hu; simp only [hu] at hx; exact hx
   ·trivial
 ·by_cases e : t = d <;> by_cases e' : t' = d
  ·exact e.trans e'.symm
  ·rw [if_pos e] at ht; rw [if_neg e'] at ht'
   exact absurd ht' ((hob b ht).2 t')
  ·rw [if_neg e] at ht; rw [if_pos e'] at ht'
   exact absurd ht ((hob b ht').2 t)
  ·rw [if_neg e] at ht; rw [if_neg e'] at ht'
   exact h.inj t t' b ht ht'
 ·by_cases e : t = d
  ·rw [if_pos e] at ht; exact (hob b ht).1
  ·rw [if_neg e] at ht; exact h.out t b ht
 ·by_cases e : t = d
  ·subst e; rw [Bj] at ht; exact (hgb g cs ht).1
  ·rw [Da _ _ e] at ht; have := h.gbx t g cs ht; omega
 ·by_cases e : t = d
  ·subst e
   rw [Bj] at ht
   have h1 := hgv t' g off ht
   refine ⟨h1.1, ?_⟩
   by_cases e' : t' = t
   ·subst e'; rw [Bj]; exact hj
   ·rw [Da _ _ e']; exact h1.2
  ·rw [Da _ _ e] at ht
   have h1 := h.gvp t t' g off ht
   refine ⟨by omega, ?_⟩
   by_cases e' : t' = d
   ·subst e'; rw [Bj]; exact hj
   ·rw [Da _ _ e']; exact h1.2
theorem B9.put_val {B N nt : Nat} {J : Bk} {s : St} {a : Act} {w : World} (h : B9 B N nt J s a w) {dst : Option Nat} (hd : ∀ d, dst = some d → d < nt) {f v : Value} (hv : A9 J s.H f v) :
  B9 B N nt J { s with ρ := Ah s.ρ dst (.val f) } (a.put dst v) w := by
 cases dst with
 | none => exact h
 | some d =>
  obtain ⟨own, ho⟩ := h.fr
  have hlt : d < a.tmps.size := by rw [h.sz]; exact hd d rfl
  refine ⟨h.wr, ⟨_, ho.put (ob := none) (Nat.le_refl _) hlt (f := .val f) (v := v) ?_ (fun b hb => by cases hb) (fun g cs e => by cases e) (fun t g off e => by cases e) (fun e => by cases e)⟩, h.df, ?_, h.hN⟩
  ·unfold Pf
   rw [Bj, Ea _ _ _ hlt]
   exact hv
  ·simp [Act.put, h.sz]
theorem B9.put_vp {B N nt : Nat} {J : Bk} {s : St} {a : Act} {w : World} (h : B9 B N nt J s a w) {dst : Option Nat} (hd : ∀ d, dst = some d → d < nt) {t g off : Nat} {v : Value} (hg : g < s.gn ∧ s.ρ t ≠ .junk)
  (hv : ∀ own, K8 N J s.H w s.ρ s.gn a.tmps own → ∀ cs, s.ρ t = .bx g cs → ∃ b, own t = some b ∧ v = .pointer (some ⟨b, off, none⟩)) :
  B9 B N nt J { s with ρ := Ah s.ρ dst (.vp t g off) } (a.put dst v) w := by
 cases dst with
 | none => exact h
 | some d =>
  obtain ⟨own, ho⟩ := h.fr
  have hlt : d < a.tmps.size := by rw [h.sz]; exact hd d rfl
  refine ⟨h.wr, ⟨_, ho.put (ob := none) (Nat.le_refl _) hlt (f := .vp t g off) (v := v) ?_ (fun b hb => by cases hb) (fun g cs e => by cases e) (fun t' g' off' e => by cases e; exact hg) (fun e => by cases e)⟩, h.df, ?_, h.hN⟩
  ·unfold Pf
   rw [Bj, Ea _ _ _ hlt]
   intro cs hcs
   by_cases e : t = d
   ·subst e; rw [Bj] at hcs; cases hcs
   ·rw [Da _ _ e] at hcs
    simp only [if_neg e]
    exact hv own ho cs hcs
  ·simp [Act.put, h.sz]
theorem Fm (w : World) (o : Obj) : (w.alloc o).heap.size = w.heap.size + 1 := by
 show (w.heap.push o).size = _
 simp
theorem Hv (w : World) (o : Obj) {b : Nat} (hb : b < w.heap.size) : (w.alloc o).heap[b]? = w.heap[b]? := RowKit.Below.heap_alloc w o b hb
theorem Hm (w : World) (o : Obj) : (w.alloc o).heap[w.heap.size]? = some o := by
 show (w.heap.push o)[w.heap.size]? = _
 simp
theorem Tr.alloc {B : Nat} (J : Bk) (H : Hp) (w : World) (o : Obj) : Tr B w.heap.size J H w J H (w.alloc o) :=
 ⟨.refl _ _, fun b hb _ => Hv w o hb, fun _ l' h => .inl ⟨l', h, rfl⟩, by rw [Fm]; omega, rfl, rfl, rfl⟩
theorem Tr.drew {B : Nat} (J : Bk) (H : Hp) (w : World) : Tr B w.heap.size J H w J H w.drew :=
 ⟨.refl _ _, fun b hb _ => rfl, fun _ l' h => .inl ⟨l', h, rfl⟩, Nat.le_refl _, rfl, rfl, rfl⟩
theorem Dx.lt {B : Nat} {J : Bk} {H : Hp} {w : World} (h : Dx B J H w) {id : Nat} {l : dU} (hl : J id = some l) : l.b < w.heap.size := by
 have hid : id < H.length := by
  rcases Nat.lt_or_ge id H.length with h1 | h1
  ·exact h1
  ·rw [h.dom id h1] at hl; cases hl
 obtain ⟨l', ds, e, lo, hi, h1, h2, _⟩ := h.row id H[id] (B7 hid)
 rw [h1] at hl
 cases hl
 exact (Array.getElem?_eq_some_iff.1 h2).1
theorem Dx.same {B : Nat} {J : Bk} {H : Hp} {w w' : World} (h : Dx B J H w) (hh : ∀ b, b < w.heap.size → w'.heap[b]? = w.heap[b]?) : Dx B J H w' := by
 refine ⟨fun id o ho => ?_, h.uni, h.dom⟩
 obtain ⟨l, ds, e, lo, hi, h1, h2, h3⟩ := h.row id o ho
 exact ⟨l, ds, e, lo, hi, h1, by rw [hh l.b (h.lt h1)]; exact h2, h3⟩
theorem Dx.alloc {B : Nat} {J : Bk} {H : Hp} {w : World} (h : Dx B J H w) (o : Obj) : Dx B J H (w.alloc o) :=
 h.same fun b hb => Hv w o hb
theorem B9.drew {B N nt : Nat} {J : Bk} {s : St} {a : Act} {w : World} (h : B9 B N nt J s a w) : B9 B N nt J s a w.drew :=
 h.move (.drew J s.H w) (h.wr.same fun _ _ => rfl)
theorem B9.put_bx {B N nt : Nat} {J : Bk} {s : St} {a : Act} {w : World} (h : B9 B N nt J s a w) {d : Nat} (hd : d < nt) {cs : List Value} {ds : Array Value} (e : TypeId) (hv : A7 J s.H cs ds.toList) (h1 : ∀ v ∈ cs, v.oneCell' = true) :
  B9 B N nt J { s with ρ := Ah s.ρ (some d) (.bx s.gn cs), gn := s.gn + 1 } (a.put (some d) (.pointer (some ⟨w.heap.size, 0, none⟩))) (w.alloc (.cells ds e)) := by
 have hm := h.move (.alloc J s.H w (.cells ds e)) (h.wr.alloc _)
 obtain ⟨own, ho⟩ := h.fr
 have ho' := ho.move (B := B) (.alloc J s.H w (.cells ds e))
 have hlt : d < a.tmps.size := by rw [h.sz]; exact hd
 refine ⟨hm.wr, ⟨_, ho'.put (gn' := s.gn + 1) (ob := some w.heap.size) (by omega) hlt (f := .bx s.gn cs) (v := .pointer (some ⟨w.heap.size, 0, none⟩)) ?_ (fun b hb => ?_) (fun g cs' e => by cases e; exact ⟨by omega, .inl (Nat.le_refl _)⟩) (fun t g off e => by cases e) (fun e => by cases e)⟩, h.df, ?_, hm.hN⟩
 ·unfold Pf
  rw [Bj, Ea _ _ _ hlt]
  exact ⟨_, ds, e, by simp, rfl, Hm _ _, hv, h1⟩
 ·cases hb
  refine ⟨⟨h.hN, by rw [Fm]; omega, fun id l hl he => ?_⟩, fun t ht => ?_⟩
  ·have := h.wr.lt hl; omega
  ·have := (ho.out t _ ht).2.1; omega
 ·simp [Act.put, h.sz]
theorem B9.put_bd {B N nt : Nat} {J : Bk} {s : St} {a : Act} {w : World} (h : B9 B N nt J s a w) {d : Nat} (hd : d < nt) {cs : List Value} {ds : Array Value} (e : TypeId) (hz : s.ρ d = .junk) (hv : A7 J s.H cs ds.toList) (h1 : ∀ v ∈ cs, v.oneCell' = true) :
  B9 B N nt J { s with ρ := Ah s.ρ (some d) (.bx 0 cs) } (a.put (some d) (.pointer (some ⟨w.heap.size, 0, none⟩))) (w.alloc (.cells ds e)) := by
 have hm := h.move (.alloc J s.H w (.cells ds e)) (h.wr.alloc _)
 obtain ⟨own, ho⟩ := h.fr
 have ho' := ho.move (B := B) (.alloc J s.H w (.cells ds e))
 have hlt : d < a.tmps.size := by rw [h.sz]; exact hd
 refine ⟨hm.wr, ⟨_, ho'.put (ob := some w.heap.size) (Nat.le_refl _) hlt (f := .bx 0 cs) (v := .pointer (some ⟨w.heap.size, 0, none⟩)) ?_ (fun b hb => ?_) (fun g cs' e => by cases e; exact ⟨ho.gpos, .inr hz⟩) (fun t g off e => by cases e) (fun e => by cases e)⟩, h.df, ?_, hm.hN⟩
 ·unfold Pf
  rw [Bj, Ea _ _ _ hlt]
  exact ⟨_, ds, e, by simp, rfl, Hm _ _, hv, h1⟩
 ·cases hb
  refine ⟨⟨h.hN, by rw [Fm]; omega, fun id l hl he => ?_⟩, fun t ht => ?_⟩
  ·have := h.wr.lt hl; omega
  ·have := (ho.out t _ ht).2.1; omega
 ·simp [Act.put, h.sz]
theorem B9.put_vs {B N nt : Nat} {J : Bk} {s : St} {a : Act} {w : World} (h : B9 B N nt J s a w) {d : Nat} (hd : d < nt) {n : Nat} {cs : List Value} {ds : Array Value} (e : TypeId) (hv : A7 J s.H cs ds.toList) (h1 : ∀ v ∈ cs, v.oneCell' = true) :
  B9 B N nt J { s with ρ := Ah s.ρ (some d) (.vs n cs) } (a.put (some d) (.slice (some ⟨w.heap.size, 0, none⟩) n n)) (w.alloc (.cells ds e)) := by
 have hm := h.move (.alloc J s.H w (.cells ds e)) (h.wr.alloc _)
 obtain ⟨own, ho⟩ := h.fr
 have ho' := ho.move (B := B) (.alloc J s.H w (.cells ds e))
 have hlt : d < a.tmps.size := by rw [h.sz]; exact hd
 refine ⟨hm.wr, ⟨_, ho'.put (ob := some w.heap.size) (Nat.le_refl _) hlt (f := .vs n cs) (v := .slice (some ⟨w.heap.size, 0, none⟩) n n) ?_ (fun b hb => ?_) (fun g cs' e => by cases e) (fun t g off e => by cases e) (fun e => by cases e)⟩, h.df, ?_, hm.hN⟩
 ·unfold Pf
  rw [Bj, Ea _ _ _ hlt]
  exact ⟨_, ds, e, by simp, rfl, Hm _ _, hv, h1⟩
 ·cases hb
  refine ⟨⟨h.hN, by rw [Fm]; omega, fun id l hl he => ?_⟩, fun t ht => ?_⟩
  ·have := h.wr.lt hl; omega
  ·have := (ho.out t _ ht).2.1; omega
 ·simp [Act.put, h.sz]
def Bk.add (J : Bk) (n : Nat) (l : dU) : Bk := fun id => if id = n then some l else J id
theorem bW {B : Nat} {J : Bk} {H : Hp} {w : World} (h : Dx B J H w) (hB : B ≤ H.length) {cs : List Value} {ds : Array Value} (e : TypeId) (lo hi : Nat)
  (hl : cs.length ≤ ds.size) (hv : ∀ (i : Nat) (x y : Value), cs[i]? = some x → ds[i]? = some y → A9 J H x y) (h1 : ∀ v ∈ cs, v.oneCell' = true) (hfz : ∀ i, i < ds.size → ¬ (lo ≤ i ∧ i < hi)) :
  Tr B w.heap.size J H w (J.add H.length ⟨w.heap.size, 0, ds.size⟩) (H ++ [cs]) (w.alloc (.cells ds e (lo, hi))) ∧ Dx B (J.add H.length ⟨w.heap.size, 0, ds.size⟩) (H ++ [cs]) (w.alloc (.cells ds e (lo, hi))) := by
 have hk : Lx J H (J.add H.length ⟨w.heap.size, 0, ds.size⟩) (H ++ [cs]) := fun id o ho => by
  have hid := (Em ho).1
  exact ⟨o, by rw [List.getElem?_append_left hid]; exact ho, .inr ⟨rfl, by simp [Bk.add]; omega⟩⟩
 have hold : ∀ b, b < w.heap.size → (w.alloc (.cells ds e (lo, hi))).heap[b]? = w.heap[b]? := fun b hb => Hv w _ hb
 refine ⟨⟨hk, fun b hb _ => hold b hb, fun id l' hl' => ?_, by rw [Fm]; omega, rfl, rfl, rfl⟩, ⟨fun id o ho => ?_, fun id id' l l' hne hB' hl hl' => ?_, fun id hid => ?_⟩⟩
 ·simp only [Bk.add] at hl'
  split at hl'
  ·cases hl'; exact .inr (Nat.le_refl _)
  ·exact .inl ⟨l', hl', rfl⟩
 ·by_cases hid : id < H.length
  ·rw [List.getElem?_append_left hid] at ho
   obtain ⟨l, ds', e', lo', hi', a1, a2, a3, a4, a5, a6⟩ := h.row id o ho
   refine ⟨l, ds', e', lo', hi', by simp only [Bk.add]; rw [if_neg (by omega)]; exact a1, by rw [hold _ (h.lt a1)]; exact a2, a3, a4, fun i v hi => ?_, a6⟩
   obtain ⟨b1, d, b2, b3⟩ := a5 i v hi
   exact ⟨b1, d, b2, b3.keep hk⟩
  ·have e1 : id = H.length := by
    have := (Em ho).1
    simp at this
    omega
   subst e1
   rw [List.getElem?_append_right (Nat.le_refl _)] at ho
   simp at ho
   subst ho
   refine ⟨⟨w.heap.size, 0, ds.size⟩, ds, e, lo, hi, by simp [Bk.add], Hm _ _, rfl, by simpa using hl, fun i v hi => ?_, fun _ i _ h2 => hfz i h2⟩
   have hi' := (Em hi).1
   refine ⟨h1 v (List.mem_of_getElem? hi), ds[i]'(by omega), by simp, ?_⟩
   exact (hv i v _ hi (by simp)).keep hk
 ·simp only [Bk.add] at hl hl'
  split at hl <;> split at hl'
  ·omega
  ·cases hl; have := h.lt hl'; simp only; omega
  ·cases hl'; have := h.lt hl; simp only; omega
  ·exact h.uni id id' l l' hne hB' hl hl'
 ·simp only [Bk.add]
  simp at hid
  rw [if_neg (by omega)]
  exact h.dom id (by omega)
theorem Lb {s s1 : St} {t esz : Nat} (h : E7 s t esz = some s1) : ∃ n cs, s.ρ t = .vs n cs ∧ cs.length = n * esz ∧ s1 = { s with H := s.H ++ [cs], ρ := Ah s.ρ (some t) (.val (.slice (some ⟨s.H.length, 0, some esz⟩) n (n * esz))) } := by
 unfold E7 at h
 split at h
 ·rename_i n cs hvs
  split at h
  ·rename_i hl
   cases h
   exact ⟨n, cs, hvs, hl, rfl⟩
  ·cases h
 ·cases h
theorem Xi {s s1 : St} {t esz : Nat} (h : E7 s t esz = some s1) : s1.H.length = s.H.length + 1 := by
 obtain ⟨n, cs, _, _, rfl⟩ := Lb h
 simp
theorem B9.prom {B N nt : Nat} {J : Bk} {s s1 : St} {a : Act} {w : World} (R : B9 B N nt J s a w) (hB : B ≤ s.H.length) {t esz : Nat} (h : E7 s t esz = some s1) :
  ∃ J1, Tr B N J s.H w J1 s1.H w ∧ B9 B N nt J1 s1 a w := by
 unfold E7 at h
 split at h
 ·rename_i n cs hvs
  split at h
  ·rename_i hlen
   cases h
   obtain ⟨own, hf⟩ := R.fr
   have ht := hf.ok t
   unfold Pf at ht
   simp only [hvs] at ht
   obtain ⟨b, ds, e, h1, h2, h3, h4, h5⟩ := ht
   obtain ⟨o1, o2, o3⟩ := hf.out t b h1
   have hds : cs.length = ds.size := by rw [h4.1, Array.length_toList]
   have hk : Lx J s.H (J.add s.H.length ⟨b, 0, ds.size⟩) (s.H ++ [cs]) := fun id o ho => by
    have hid := (Em ho).1
    exact ⟨o, by rw [List.getElem?_append_left hid]; exact ho, .inr ⟨rfl, by simp [Bk.add]; omega⟩⟩
   have main : Tr B N J s.H w (J.add s.H.length ⟨b, 0, ds.size⟩) (s.H ++ [cs]) w ∧ Dx B (J.add s.H.length ⟨b, 0, ds.size⟩) (s.H ++ [cs]) w ∧ K8 N (J.add s.H.length ⟨b, 0, ds.size⟩) (s.H ++ [cs]) w (Ah s.ρ (some t) (.val (.slice (some ⟨s.H.length, 0, some esz⟩) n (n * esz)))) s.gn a.tmps (fun x => if x = t then none else own x) := by
    refine ⟨⟨hk, fun b' hb _ => rfl, fun id l' hl' => ?_, Nat.le_refl _, rfl, rfl, rfl⟩, ⟨fun id o ho => ?_, fun id id' l l' hne hB' hl hl' => ?_, fun id hid => ?_⟩, ⟨fun x => ?_, fun x x' b' hx hx' => ?_, fun x b' hx => ?_, fun x g cs' hx => ?_, fun x t' g off hx => ?_, hf.gpos⟩⟩
    ·simp only [Bk.add] at hl'
     split at hl'
     ·cases hl'; exact .inr o1
     ·exact .inl ⟨l', hl', rfl⟩
    ·by_cases hid : id < s.H.length
     ·rw [List.getElem?_append_left hid] at ho
      obtain ⟨l, ds', e', lo', hi', a1, a2, a3, a4, a5, a6⟩ := R.wr.row id o ho
      refine ⟨l, ds', e', lo', hi', by simp only [Bk.add]; rw [if_neg (by omega)]; exact a1, a2, a3, a4, fun i v hi => ?_, a6⟩
      obtain ⟨b1, d, b2, b3⟩ := a5 i v hi
      exact ⟨b1, d, b2, b3.keep hk⟩
     ·have e1 : id = s.H.length := by
       have := (Em ho).1
       simp at this
       omega
      subst e1
      rw [List.getElem?_append_right (Nat.le_refl _)] at ho
      simp at ho
      subst ho
      refine ⟨⟨b, 0, ds.size⟩, ds, e, 0, 0, by simp [Bk.add], h3, rfl, by simp only; omega, fun i v hi => ?_, fun _ i _ h2 => by omega⟩
      have hi' := (Em hi).1
      refine ⟨h5 v (List.mem_of_getElem? hi), ds[i]'(by omega), by simp, ?_⟩
      exact (h4.2 i v _ hi (by simp)).keep hk
    ·simp only [Bk.add] at hl hl'
     split at hl <;> split at hl'
     ·omega
     ·cases hl; exact fun e => o3 id' l' hl' e.symm
     ·cases hl'; exact o3 id l hl
     ·exact R.wr.uni id id' l l' hne hB' hl hl'
    ·simp only [Bk.add]
     simp at hid
     rw [if_neg (by omega)]
     exact R.wr.dom id (by omega)
    ·by_cases e1 : x = t
     ·subst e1
      unfold Pf
      rw [Bj, h2]
      exact .sl _ 0 esz n _ cs _ n (by simp) (by omega) (Nat.le_refl _) (Nat.le_refl _) fun _ => ⟨⟨b, 0, ds.size⟩, by simp [Bk.add], .inr ⟨rfl, by show 0 + 0 + n * esz ≤ ds.size; omega⟩⟩
     ·have hx := hf.ok x
      unfold Pf at hx ⊢
      rw [Da _ _ e1]
      simp only [if_neg e1]
      split
      ·rename_i v hv; simp only [hv] at hx; exact hx.keep hk
      ·rename_i g cs' hv
       simp only [hv] at hx
       obtain ⟨b', ds', e', k1, k2, k3, k4, k5⟩ := hx
       exact ⟨b', ds', e', k1, k2, k3, k4.keep hk, k5⟩
      ·rename_i t' g off hv
       simp only [hv] at hx
       intro cs' hcs'
       by_cases e2 : t' = t
       ·subst e2
        rw [Bj] at hcs'
        cases hcs'
       ·rw [Da _ _ e2] at hcs'
        rw [if_neg e2]
        exact hx cs' hcs'
      ·rename_i n' cs' hv
       simp only [hv] at hx
       obtain ⟨b', ds', e', k1, k2, k3, k4, k5⟩ := hx
       exact ⟨b', ds', e', k1, k2, k3, k4.keep hk, k5⟩
      ·trivial
    ·try simp only at hx hx'
     split at hx
     ·cases hx
     ·split at hx'
      ·cases hx'
      ·exact hf.inj x x' b' hx hx'
    ·try simp only at hx
     split at hx
     ·cases hx
     ·rename_i e1
      obtain ⟨k1, k2, k3⟩ := hf.out x b' hx
      refine ⟨k1, k2, fun id l hl => ?_⟩
      simp only [Bk.add] at hl
      split at hl
      ·cases hl
       simp only
       intro e2
       subst e2
       exact e1 (hf.inj x t _ hx h1)
      ·exact k3 id l hl
    ·by_cases e1 : x = t
     ·subst e1
      rw [Bj] at hx
      cases hx
     ·rw [Da _ _ e1] at hx
      exact hf.gbx x g cs' hx
    ·by_cases e1 : x = t
     ·subst e1
      rw [Bj] at hx
      cases hx
     ·rw [Da _ _ e1] at hx
      have h6 := hf.gvp x t' g off hx
      refine ⟨h6.1, ?_⟩
      by_cases e2 : t' = t
      ·subst e2; rw [Bj]; exact fun e => by cases e
      ·rw [Da _ _ e2]; exact h6.2
   exact ⟨_, main.1, ⟨main.2.1, ⟨_, main.2.2⟩, R.df, R.sz, R.hN⟩⟩
  ·cases h
 ·cases h
theorem Ec : ∀ (vs : List Value) (o : List Value) (i j : Nat), (spl o i vs)[j]? = if i ≤ j ∧ j < i + vs.length then (if j < o.length then vs[j - i]? else none) else o[j]?
 | [], o, i, j => by
  rw [spl, if_neg]
  simp only [List.length_nil]
  omega
 | v :: vs, o, i, j => by
  rw [spl, Ec vs, List.length_set, List.getElem?_set, List.length_cons]
  by_cases h1 : i + 1 ≤ j ∧ j < i + 1 + vs.length
  ·have h2 : i ≤ j ∧ j < i + (vs.length + 1) := by omega
   simp only [if_pos h1, if_pos h2]
   rw [show j - i = (j - (i + 1)) + 1 by omega, List.getElem?_cons_succ]
  ·by_cases h2 : i = j
   ·subst h2
    have h3 : i ≤ i ∧ i < i + (vs.length + 1) := by omega
    simp only [if_neg h1, if_pos h3, if_true]
    simp
   ·have h3 : ¬ (i ≤ j ∧ j < i + (vs.length + 1)) := by omega
    simp only [if_neg h1, if_neg h2, if_neg h3]
theorem D8 (b : Nat) : ∀ (vs : List Value) (o : Nat) (w : World), (w.setCells b o vs).heap.size = w.heap.size
 | [], _, _ => rfl
 | v :: r, o, w => by rw [World.setCells, D8 b r]; simp [World.setCell]
theorem Ji (b : Nat) : ∀ (vs : List Value) (o : Nat) (w : World), (w.setCells b o vs).os = w.os ∧ (w.setCells b o vs).tape = w.tape ∧ (w.setCells b o vs).output = w.output
 | [], _, _ => ⟨rfl, rfl, rfl⟩
 | v :: r, o, w => by rw [World.setCells]; exact Ji b r (o + 1) _
theorem Gq (b : Nat) {c : Nat} (hc : c ≠ b) : ∀ (vs : List Value) (o : Nat) (w : World), (w.setCells b o vs).heap[c]? = w.heap[c]?
 | [], _, _ => rfl
 | v :: r, o, w => by rw [World.setCells, Gq b hc r]; exact RowKit.Below.heap_setCell _ _ _ _ (by simpa using hc)
theorem Ja (b : Nat) {e : TypeId} {fr : Nat × Nat} : ∀ (vs : List Value) (o : Nat) (w : World) (ds : List Value), w.heap[b]? = some (.cells ds.toArray e fr) →
  (w.setCells b o vs).heap[b]? = some (.cells (spl ds o vs).toArray e fr)
 | [], _, _, _, h => h
 | v :: r, o, w, ds, h => by
  rw [World.setCells, spl]
  refine Ja b r (o + 1) _ _ ?_
  simp only [World.setCell, Array.getElem?_modify, h]
  simp
theorem eH {B : Nat} {J : Bk} {H : Hp} {w w' : World} (h : Dx B J H w) {id : Nat} {o o' : List Value} {l : dU} {ds' : Array Value} {e : TypeId} {lo hi : Nat} (ho : H[id]? = some o) (hl : J id = some l) (hB : B ≤ id)
  (hlen : o.length < o'.length ∨ o'.length = o.length) (hsz : l.sh + o'.length ≤ l.sz)
  (hv : ∀ (i : Nat) (v : Value), o'[i]? = some v → v.oneCell' = true ∧ ∃ d, ds'[l.sh + i]? = some d ∧ A9 J H v d)
  (hb : w'.heap[l.b]? = some (.cells ds' e (lo, hi))) (hds : ds'.size = l.sz) (hfz : ∀ i, l.sh ≤ i → i < l.sz → ¬ (lo ≤ i ∧ i < hi))
  (hoth : ∀ c, c ≠ l.b → w'.heap[c]? = w.heap[c]?) (hs : w'.heap.size = w.heap.size) (hos : w'.os = w.os ∧ w'.tape = w.tape ∧ w'.output = w.output) :
  Tr B w.heap.size J H w J (H.set id o') w' ∧ Dx B J (H.set id o') w' := by
 have hid := (Em ho).1
 have hk : Lx J H J (H.set id o') := fun id2 o2 ho2 => by
  by_cases e : id = id2
  ·subst e
   rw [ho] at ho2; cases ho2
   refine ⟨o', by simp [hid], ?_⟩
   rcases hlen with h1 | h1
   ·exact .inl h1
   ·exact .inr ⟨h1, rfl⟩
  ·exact ⟨o2, by rw [List.getElem?_set_ne e]; exact ho2, .inr ⟨rfl, rfl⟩⟩
 refine ⟨⟨hk, fun b _ hn => hoth b fun e => hn id l hl hB e.symm, fun _ l' hl' => .inl ⟨l', hl', rfl⟩, by omega, hos.1, hos.2.1, hos.2.2⟩, ⟨fun id2 o2 ho2 => ?_, h.uni, fun id2 h2 => h.dom id2 (by simpa using h2)⟩⟩
 by_cases e1 : id = id2
 ·subst e1
  have : o' = o2 := by simpa [hid] using ho2
  subst this
  refine ⟨l, ds', e, lo, hi, hl, hb, hds, hsz, fun i v hi => ?_, fun _ => hfz⟩
  obtain ⟨a1, d, a2, a3⟩ := hv i v hi
  exact ⟨a1, d, a2, a3.keep hk⟩
 ·rw [List.getElem?_set_ne e1] at ho2
  obtain ⟨l2, ds2, e2, lo2, hi2, a1, a2, a3, a4, a5, a6⟩ := h.row id2 o2 ho2
  refine ⟨l2, ds2, e2, lo2, hi2, a1, by rw [hoth _ fun x => h.uni id id2 l l2 e1 hB hl a1 x.symm]; exact a2, a3, a4, fun i v hi => ?_, a6⟩
  obtain ⟨b1, d, b2, b3⟩ := a5 i v hi
  exact ⟨b1, d, b2, b3.keep hk⟩
theorem Iw {J : Bk} {H : Hp} {vs ws : List Value} (h : A7 J H vs ws) (h1 : ∀ v ∈ vs, v.oneCell' = true) : ∀ v ∈ ws, v.oneCell' = true := fun v hv => by
 obtain ⟨i, hi⟩ := List.getElem?_of_mem hv
 have hlt := (Em hi).1
 have hx : vs[i]? = some (vs[i]'(by rw [h.1]; exact hlt)) := B7 _
 rw [← (h.2 i _ v hx hi).one]
 exact h1 _ (List.mem_of_getElem? hx)
theorem Jw {B : Nat} {P : Program} {J : Bk} {H : Hp} {w : World} (h : Dx B J H w) {id i : Nat} {o o' vs ws : List Value} {l : dU} (ho : H[id]? = some o) (hl : J id = some l) (hB : B ≤ id)
  (hvw : A7 J H vs ws) (h1 : ∀ v ∈ vs, v.oneCell' = true) (hin : l.sh + i + vs.length ≤ l.sz)
  (ho' : o' = spl o i vs ∧ i + vs.length ≤ o.length ∨ o' = o.take i ++ vs ∧ o.length < i + vs.length ∧ i ≤ o.length) :
  (storeCells ⟨l.b, l.sh + i, none⟩ ws).run P w = .ok () (w.setCells l.b (l.sh + i) ws) ∧
  Tr B w.heap.size J H w J (H.set id o') (w.setCells l.b (l.sh + i) ws) ∧ Dx B J (H.set id o') (w.setCells l.b (l.sh + i) ws) := by
 obtain ⟨l', ds, e, lo, hi, a1, a2, a3, a4, a5, a6⟩ := h.row id o ho
 rw [hl] at a1; cases a1
 have a6 := a6 hB
 have hwl := hvw.1
 have hcell : ∀ j, j < ws.length → w.cell? ⟨l.b, l.sh + i + 0 + j, none⟩ = ds[l.sh + i + j]? := fun j _ => by simp [World.cell?, a2]
 refine ⟨?_, eH h ho hl hB ?_ ?_ (fun j v hj => ?_) (Ja l.b ws (l.sh + i) w ds.toList (by simpa using a2)) (by simpa [Cq] using a3) a6 (fun c hc => Gq l.b hc ws _ w) (D8 l.b ws _ w) (Ji l.b ws _ w)⟩
 ·refine run_storeCells_cells l.b (l.sh + i) ws 0 w (fun j hj => ?_) (fun j hj => ?_) (Iw hvw h1)
  ·rw [hcell j hj, Array.getElem?_eq_getElem (by omega)]; rfl
  ·have := a6 (l.sh + i + j) (by omega) (by omega)
   simp only [World.frozen?, a2, Bool.and_eq_false_iff, decide_eq_false_iff_not]
   omega
 ·rcases ho' with ⟨rfl, _⟩ | ⟨rfl, h2, h3⟩
  ·exact .inr (Cq _ _ _)
  ·left; simp; omega
 ·rcases ho' with ⟨rfl, _⟩ | ⟨rfl, h2, h3⟩
  ·rw [Cq]; exact a4
  ·simp; omega
 ·have hds : ∀ k, (spl ds.toList (l.sh + i) ws).toArray[k]? = if l.sh + i ≤ k ∧ k < l.sh + i + ws.length then (if k < ds.size then ws[k - (l.sh + i)]? else none) else ds[k]? := fun k => by
   rw [List.getElem?_toArray, Ec]; simp
  have hnew : i ≤ j → j < i + vs.length → vs[j - i]? = some v → v.oneCell' = true ∧ ∃ d, (spl ds.toList (l.sh + i) ws).toArray[l.sh + j]? = some d ∧ A9 J H v d := fun q1 q2 q3 => by
   obtain ⟨d, hd, hr⟩ := hvw.get q3
   refine ⟨h1 v (List.mem_of_getElem? q3), d, ?_, hr⟩
   rw [hds, if_pos (by omega), if_pos (by omega), show l.sh + j - (l.sh + i) = j - i by omega]
   exact hd
  have hold : (j < i ∨ i + vs.length ≤ j) → o[j]? = some v → v.oneCell' = true ∧ ∃ d, (spl ds.toList (l.sh + i) ws).toArray[l.sh + j]? = some d ∧ A9 J H v d := fun q1 q3 => by
   obtain ⟨b1, d, b2, b3⟩ := a5 j v q3
   refine ⟨b1, d, ?_, b3⟩
   rw [hds, if_neg (by omega)]
   exact b2
  rcases ho' with ⟨rfl, _⟩ | ⟨rfl, h2, h3⟩
  ·rw [Ec] at hj
   split at hj
   ·rename_i hc
    split at hj
    ·exact hnew hc.1 hc.2 hj
    ·cases hj
   ·rename_i hc
    exact hold (by omega) hj
  ·by_cases hji : j < i
   ·rw [List.getElem?_append_left (by simp; omega), List.getElem?_take, if_pos hji] at hj
    exact hold (.inl hji) hj
   ·rw [List.getElem?_append_right (by simp; omega)] at hj
    have hk : (o.take i).length = i := by simp; omega
    rw [hk] at hj
    have := (Em hj).1
    exact hnew (by omega) (by omega) hj
theorem Z0 {B : Nat} {J : Bk} {H : Hp} {w : World} (h : Dx B J H w) {id : Nat} {o o' : List Value} {ds : Array Value} (e : TypeId) (ho : H[id]? = some o) (hB : B ≤ id) (hlen : o.length < o'.length) (hds : o'.length ≤ ds.size)
  (hv : ∀ (i : Nat) (v : Value), o'[i]? = some v → v.oneCell' = true ∧ ∃ d, ds[i]? = some d ∧ A9 J H v d) :
  Tr B w.heap.size J H w (J.add id ⟨w.heap.size, 0, ds.size⟩) (H.set id o') (w.alloc (.cells ds e)) ∧ Dx B (J.add id ⟨w.heap.size, 0, ds.size⟩) (H.set id o') (w.alloc (.cells ds e)) := by
 have hid := (Em ho).1
 have hk : Lx J H (J.add id ⟨w.heap.size, 0, ds.size⟩) (H.set id o') := fun id2 o2 ho2 => by
  by_cases e : id = id2
  ·subst e
   rw [ho] at ho2; cases ho2
   exact ⟨o', by simp [hid], .inl hlen⟩
  ·exact ⟨o2, by rw [List.getElem?_set_ne e]; exact ho2, .inr ⟨rfl, by simp only [Bk.add]; rw [if_neg (Ne.symm e)]⟩⟩
 refine ⟨⟨hk, fun b hb _ => Hv w _ hb, fun id2 l' hl' => ?_, by rw [Fm]; omega, rfl, rfl, rfl⟩, ⟨fun id2 o2 ho2 => ?_, fun id2 id3 l l' hne hB' hl hl' => ?_, fun id2 h2 => ?_⟩⟩
 ·simp only [Bk.add] at hl'
  split at hl'
  ·cases hl'; exact .inr (Nat.le_refl _)
  ·exact .inl ⟨l', hl', rfl⟩
 ·by_cases e1 : id = id2
  ·subst e1
   have : o' = o2 := by simpa [hid] using ho2
   subst this
   refine ⟨⟨w.heap.size, 0, ds.size⟩, ds, e, 0, 0, by simp [Bk.add], Hm _ _, rfl, by simpa using hds, fun i v hi => ?_, fun _ i _ _ => by omega⟩
   obtain ⟨a1, d, a2, a3⟩ := hv i v hi
   exact ⟨a1, d, by simpa using a2, a3.keep hk⟩
  ·rw [List.getElem?_set_ne e1] at ho2
   obtain ⟨l2, ds2, e2, lo2, hi2, a1, a2, a3, a4, a5, a6⟩ := h.row id2 o2 ho2
   refine ⟨l2, ds2, e2, lo2, hi2, by simp only [Bk.add]; rw [if_neg (Ne.symm e1)]; exact a1, by rw [Hv w _ (h.lt a1)]; exact a2, a3, a4, fun i v hi => ?_, a6⟩
   obtain ⟨b1, d, b2, b3⟩ := a5 i v hi
   exact ⟨b1, d, b2, b3.keep hk⟩
 ·simp only [Bk.add] at hl hl'
  split at hl <;> split at hl'
  ·omega
  ·cases hl; have := h.lt hl'; simp only; omega
  ·cases hl'; have := h.lt hl; simp only; omega
  ·exact h.uni id2 id3 l l' hne hB' hl hl'
 ·simp only [Bk.add]
  rw [if_neg (by simp at h2; omega)]
  exact h.dom id2 (by simpa using h2)
theorem Xc {B N nt : Nat} {P : Program} {J : Bk} {s : St} {a : Act} {w : World} (h : B9 B N nt J s a w) {t g i : Nat} {cs vs ws : List Value} (ht : s.ρ t = .bx g cs) (hvw : A7 J s.H vs ws) (h1 : ∀ v ∈ vs, v.oneCell' = true)
  (hin : i + vs.length ≤ cs.length) {own : Nat → Option Nat} (hown : K8 N J s.H w s.ρ s.gn a.tmps own) {b : Nat} (hb : own t = some b) :
  (storeCells ⟨b, i, none⟩ ws).run P w = .ok () (w.setCells b i ws) ∧ Tr B N J s.H w J s.H (w.setCells b i ws) ∧
  B9 B N nt J { s with ρ := Ah s.ρ (some t) (.bx g (spl cs i vs)) } a (w.setCells b i ws) := by
 have hx := hown.ok t
 unfold Pf at hx
 simp only [ht] at hx
 obtain ⟨b', ds, e, b1, b2, b3, b4, b5⟩ := hx
 rw [hb] at b1; cases b1
 obtain ⟨o1, o2, o3⟩ := hown.out t b hb
 have hwl := hvw.1
 have hcl := b4.1
 have hcl' : cs.length = ds.size := by simpa using hcl
 have hoth : ∀ c, c ≠ b → (w.setCells b i ws).heap[c]? = w.heap[c]? := fun c hc => Gq b hc ws i w
 have hat := Ja b (e := e) (fr := (0, 0)) ws i w ds.toList (by simpa using b3)
 obtain ⟨q1, q2, q3⟩ := Ji b ws i w
 have htr : Tr B N J s.H w J s.H (w.setCells b i ws) := ⟨.refl _ _, fun c hc _ => hoth c (by omega), fun _ l' hl => .inl ⟨l', hl, rfl⟩, by rw [D8]; omega, q1, q2, q3⟩
 refine ⟨?_, htr, ⟨⟨fun id o ho => ?_, h.wr.uni, h.wr.dom⟩, ⟨own, fun x => ?_, hown.inj, fun x c hc => ?_, fun x g' cs' hg => ?_, fun x t' g' off hg => ?_, hown.gpos⟩, h.df, h.sz, by rw [D8]; exact h.hN⟩⟩
 ·have := run_storeCells_cells (P := P) b i ws 0 w (fun j hj => ?_) (fun j hj => ?_) (Iw hvw h1)
  ·simpa using this
  ·simp only [World.cell?, b3]
   simp
   omega
  ·simp only [World.frozen?, b3]
   simp
 ·obtain ⟨l, ds2, e2, lo2, hi2, a1, a2, a3⟩ := h.wr.row id o ho
  exact ⟨l, ds2, e2, lo2, hi2, a1, by rw [hoth _ (o3 id l a1)]; exact a2, a3⟩
 ·by_cases ex : x = t
  ·subst ex
   unfold Pf
   dsimp only
   rw [Bj]
   refine ⟨b, _, e, hb, b2, hat, by simpa using A7.spl hvw b4 i, fun v hv => ?_⟩
   obtain ⟨j, hj⟩ := List.getElem?_of_mem hv
   rw [Ec] at hj
   split at hj
   ·split at hj
    ·exact h1 v (List.mem_of_getElem? hj)
    ·cases hj
   ·exact b5 v (List.mem_of_getElem? hj)
  ·have hy := hown.ok x
   unfold Pf at hy ⊢
   dsimp only
   rw [Da _ _ ex]
   have hne : ∀ c, own x = some c → c ≠ b := fun c hc e => ex (hown.inj x t b (e ▸ hc) hb)
   split
   ·rename_i v hv; simp only [hv] at hy; exact hy
   ·rename_i g' cs' hv
    simp only [hv] at hy
    obtain ⟨c, ds', e', c1, c2, c3, c4⟩ := hy
    exact ⟨c, ds', e', c1, c2, by rw [hoth c (hne c c1)]; exact c3, c4⟩
   ·rename_i t' g' off hv
    simp only [hv] at hy
    intro cs' hcs
    by_cases et : t' = t
    ·subst et
     rw [Bj] at hcs
     cases hcs
     exact hy cs ht
    ·rw [Da _ _ et] at hcs
     exact hy cs' hcs
   ·rename_i n cs' hv
    simp only [hv] at hy
    obtain ⟨c, ds', e', c1, c2, c3, c4⟩ := hy
    exact ⟨c, ds', e', c1, c2, by rw [hoth c (hne c c1)]; exact c3, c4⟩
   ·trivial
 ·obtain ⟨p1, p2, p3⟩ := hown.out x c hc
  exact ⟨p1, by rw [D8]; exact p2, p3⟩
 ·dsimp only at hg
  by_cases ex : x = t
  ·subst ex; rw [Bj] at hg; cases hg; exact hown.gbx x g cs ht
  ·rw [Da _ _ ex] at hg; exact hown.gbx x g' cs' hg
 ·dsimp only at hg
  by_cases ex : x = t
  ·subst ex; rw [Bj] at hg; cases hg
  ·rw [Da _ _ ex] at hg
   have h1 := hown.gvp x t' g' off hg
   refine ⟨h1.1, ?_⟩
   by_cases et : t' = t
   ·subst et; dsimp only; rw [Bj]; exact fun e => by cases e
   ·dsimp only; rw [Da _ _ et]; exact h1.2
def Gl (P : Program) (B N nt : Nat) (o : Oper) (J : Bk) (s : St) (a : Act) (w : World) (f : FV) (s' : St) : Prop :=
 ∃ res v w' J', (execOp a.eval o).run P w = .ok res w' ∧ (res = .value v ∨ res = .skip ∧ v = undef) ∧ Tr B N J s.H w J' s'.H w' ∧ B9 B N nt J' { s' with ρ := Ah s'.ρ o.dst f } (a.put o.dst v) w'
theorem Az {P : Program} {w w' : World} {s : Sem Value} {v : Value} (h : s.run P w = .ok v w') : ((do pure (Next.value (← s)) : Sem Next)).run P w = .ok (.value v) w' := by
 simp [h]
theorem Yz {P : Program} {w w' : World} {s : Sem Unit} (h : s.run P w = .ok () w') : ((do s; pure Next.skip : Sem Next)).run P w = .ok .skip w' := by
 simp [h]
section
variable {P : Program} {B N nt : Nat} {o : Oper} {J : Bk} {s : St} {a : Act} {w : World}
theorem A9.of_constOk {J : Bk} {H : Hp} {v : Value} (h : Q4 v = true) : A9 J H v v := by
 unfold Q4 at h
 split at h
 ·rename_i cs
  refine .agg cs cs rfl (fun i x hx => ?_) fun i x y hx hy => ?_
  ·exact Tg (List.all_eq_true.1 h x (by simpa using Array.mem_of_getElem? hx))
  ·rw [hx] at hy; cases hy
   exact .scal (List.all_eq_true.1 h x (by simpa using Array.mem_of_getElem? hx))
 ·rename_i cs
  have : cs = #[] := by simpa using h
  subst this
  exact .tup _ _ rfl fun i x y hx => by simp at hx
 ·exact .scal h
theorem D7 (R : B9 B N nt J s a w) {x : Operand} {y : X} {v : Value} (hx : cx x = some y) (hv : Av s.ρ y = some v) : A9 J s.H v (a.eval x) := by
 cases x with
 | tmp t =>
  simp only [cx] at hx; cases hx
  simp only [Av, ex] at hv
  split at hv
  ·rename_i u hu
   cases hv
   obtain ⟨own, ho⟩ := R.fr
   have := ho.ok t
   unfold Pf at this
   simp only [hu] at this
   exact this
  ·cases hv
 | const c =>
  simp only [cx] at hx
  split at hx
  ·rename_i hc
   cases hx
   simp only [Av, ex] at hv; cases hv
   exact .of_constOk hc
  ·cases hx
 | func f =>
  simp only [cx] at hx; cases hx
  simp only [Av, ex] at hv; cases hv
  exact .fn f #[] #[] rfl fun i x y hx => by simp at hx
 | global g => simp only [cx] at hx; cases hx
theorem Gl.of_val {f v : Value} (R : B9 B N nt J s a w) (hd : ∀ d, o.dst = some d → d < nt) (h : (execOp a.eval o).run P w = .ok (.value v) w) (hv : A9 J s.H f v) : Gl P B N nt o J s a w (.val f) s :=
 ⟨_, v, w, J, h, .inl rfl, .refl _ _ _ _ _, R.put_val hd hv⟩
theorem A9.int_inv {J : Bk} {H : Hp} {k : IntKind} {n : Int} {c : Value} (h : A9 J H (.int k n) c) : c = .int k n := by cases h; rfl
theorem A9.bool_inv {J : Bk} {H : Hp} {b : Bool} {c : Value} (h : A9 J H (.bool b) c) : c = .bool b := by cases h; rfl
theorem A9.str_inv {J : Bk} {H : Hp} {b : ByteArray} {c : Value} (h : A9 J H (.string b) c) : c = .string b := by cases h; rfl
theorem Wi {x : Operand} {y : X} (hop : o.op = .move x ∨ o.op = .assign x) (hx : cx x = some y) (R : B9 B N nt J s a w) (hd : ∀ d, o.dst = some d → d < nt) {f : FV} {s' : St} (h : Ka s y = some (f, s')) :
  Gl P B N nt o J s a w f s' := by
 have hrun : (execOp a.eval o).run P w = .ok (.value (a.eval x)) w := by rcases hop with e | e <;> simp [execOp, e]
 unfold Ka at h
 split at h
 ·rename_i f' hf
  cases h
  cases y with
  | t t =>
   have hxt : x = .tmp t := by cases x <;> simp [cx] at hx <;> simp_all
   subst hxt
   obtain ⟨own, ho⟩ := R.fr
   cases hρ : s.ρ t with
   | val u =>
    simp only [ex, hρ, Rk] at hf; cases hf
    exact .of_val R hd hrun (D7 R (x := .tmp t) rfl (by simp [Av, ex, hρ]))
   | vp t' g off =>
    simp only [ex, hρ, Rk] at hf; cases hf
    refine ⟨_, _, w, J, hrun, .inl rfl, .refl _ _ _ _ _, R.put_vp hd (ho.gvp t t' g off hρ) fun own' ho' cs hcs => ?_⟩
    have := ho'.ok t
    unfold Pf at this
    simp only [hρ] at this
    exact this cs hcs
   | bx g cs => simp [ex, hρ, Rk] at hf
   | vs n cs => simp [ex, hρ, Rk] at hf
   | junk => simp [ex, hρ, Rk] at hf
  | c v =>
   simp only [ex, Rk] at hf; cases hf
   exact .of_val R hd hrun (D7 R hx rfl)
  | f g =>
   simp only [ex, Rk] at hf; cases hf
   exact .of_val R hd hrun (D7 R hx rfl)
 ·cases h
theorem Zr {x1 x2 x3 : Operand} {c p q : X} (hop : o.op = .pick x1 x2 x3) (h1 : cx x1 = some c) (h2 : cx x2 = some p) (h3 : cx x3 = some q) (R : B9 B N nt J s a w) (hd : ∀ d, o.dst = some d → d < nt) {f : FV} {s' : St}
  (h : Gc s c p q = some (f, s')) : Gl P B N nt o J s a w f s' := by
 unfold Gc at h
 split at h
 ·rename_i t u v e1 e2 e3
  simp only [St.val] at h; cases h
  have r1 := (D7 R h1 e1).bool_inv
  have hrun : (execOp a.eval o).run P w = .ok (.value (if t then a.eval x2 else a.eval x3)) w := by simp [execOp, hop, r1, asBool]
  refine .of_val R hd hrun ?_
  cases t
  ·exact D7 R h3 e3
  ·exact D7 R h2 e2
 ·cases h
theorem Sg (x y : ByteArray) : (x.toList == y.toList) = decide (x = y) := by
 by_cases h : x = y
 ·subst h; simp
 ·rw [decide_eq_false h, beq_eq_false_iff_ne]
  intro e
  rw [ByteArray.toList_eq, ByteArray.toList_eq] at e
  exact h (ByteArray.ext (Array.toList_inj.1 e))
theorem W1 {op : BinOp} {x y v : Value} (h : Hc op x y = some v) : scal v = true := by
 unfold Hc at h
 split at h <;> (repeat' (split at h)) <;> first | (cases h; done) | (cases h; rfl)
theorem Z3 {op : BinOp} {x y v : Value} (t : TypeId) (h : Hc op x y = some v) : (binOp op t x y).run P w = .ok v w := by
 unfold Hc at h
 split at h <;> (repeat' (split at h)) <;> first
  | (cases h; done)
  | (cases h; subst_vars; simp [binOp, Op.shift, Op.intArith, Op.intBits, Op.intCmp, Op.intDiv, Op.stringOp, Sg, *]; done)
  | (cases h; subst_vars; simp [binOp, Op.intCmp]; rfl)
  | skip
 rename_i hsz
 cases h
 simp only [binOp, Op.stringOp]
 rw [if_neg (by rw [IntKind.max_i64]; omega)]
 rfl
theorem Q6 {op : BinOp} {t : TypeId} {x1 x2 : Operand} {ty : TypeId} {v1 v2 v : Value} (hop : o.op = .binOp op t x1 x2 ty) (e1 : a.eval x1 = v1) (e2 : a.eval x2 = v2)
  (hg : (eqGuard op t x1 x2 v1 v2).run P w = .ok () w) (h : (binOp op t v1 v2).run P w = .ok v w) : (execOp a.eval o).run P w = .ok (.value v) w := by
 subst e1; subst e2
 simp only [execOp, hop]
 refine Az ?_
 simp only [Sem.run_bind, hg, Result.andThen_ok, h]
theorem U9 {op : BinOp} {x y v : Value} (t : TypeId) (x1 x2 : Operand) (h : Hc op x y = some v) : (eqGuard op t x1 x2 x y).run P w = .ok () w := by
 have hx : (∃ k n, x = .int k n) ∨ ∃ b, x = .string b := by
  unfold Hc at h
  split at h <;> first | exact .inl ⟨_, _, rfl⟩ | exact .inr ⟨_, rfl⟩ | cases h
 rcases hx with ⟨k, n, rfl⟩ | ⟨b, rfl⟩
 ·rw [eqGuard_at_int]; rfl
 ·rw [eqGuard_at_string]; rfl
theorem Uz {op : BinOp} {x y v : Value} (h : Hc op x y = some v) : scal x = true ∧ scal y = true := by
 unfold Hc at h
 split at h <;> first | exact ⟨rfl, rfl⟩ | cases h
theorem Vx {op : BinOp} {t ty : TypeId} {x1 x2 : Operand} {p q : X} (hop : o.op = .binOp op t x1 x2 ty) (h1 : cx x1 = some p) (h2 : cx x2 = some q) (R : B9 B N nt J s a w) (hd : ∀ d, o.dst = some d → d < nt) {f : FV} {s' : St}
  (h : J4 s op p q = some (f, s')) : Gl P B N nt o J s a w f s' := by
 unfold J4 at h
 split at h
 ·rename_i u v e1 e2
  cases hb : Hc op u v with
  | none => simp [Bd, hb] at h
  | some z =>
   simp only [Bd, hb] at h; cases h
   obtain ⟨s1, s2⟩ := Uz hb
   exact .of_val R hd (Q6 hop ((D7 R h1 e1).of_scal s1) ((D7 R h2 e2).of_scal s2) (U9 t x1 x2 hb) (Z3 t hb)) (.scal (W1 hb))
 ·cases h
theorem Vo {neg : Bool} {op : BinOp} {t ty : TypeId} {x1 x2 : Operand} {p q : X} (hop : o.op = .binOp op t x1 x2 ty) (hn : (op = .eql ∧ neg = false) ∨ (op = .neq ∧ neg = true)) (ht : P.underlying t = some .bool)
  (h1 : cx x1 = some p) (h2 : cx x2 = some q) (R : B9 B N nt J s a w) (hd : ∀ d, o.dst = some d → d < nt) {f : FV} {s' : St}
  (h : J8 s neg p q = some (f, s')) : Gl P B N nt o J s a w f s' := by
 unfold J8 at h
 split at h
 ·rename_i u v e1 e2
  simp only [St.val] at h; cases h
  refine .of_val R hd (Q6 hop (D7 R h1 e1).bool_inv (D7 R h2 e2).bool_inv (by rw [eqGuard_at_bool]; rfl) ?_) (.bool _)
  rcases hn with ⟨rfl, rfl⟩ | ⟨rfl, rfl⟩
  ·simp only [binOp, Sem.run_bind, run_equal_bool w t u v ht, Result.andThen_ok]; cases u <;> cases v <;> rfl
  ·simp only [binOp, Sem.run_bind, run_equal_bool w t u v ht, Result.andThen_ok]; cases u <;> cases v <;> rfl
 ·cases h
theorem Xk {k : Nat} {x y : Value} {r : Bool} (h : Ij k x y = some r) : scal x = true ∧ scal y = true := by
 unfold Ij at h
 split at h <;> first | exact ⟨rfl, rfl⟩ | cases h
theorem Qw : ∀ {ks : List Nat} {as bs : List Value} {r : Bool}, Gj ks as bs = some r → (∀ v ∈ as, scal v = true) ∧ ∀ v ∈ bs, scal v = true
 | [], [], [], _, _ => ⟨by simp, by simp⟩
 | k :: ks, x :: as, y :: bs, r, h => by
  simp only [Gj] at h
  split at h
  ·rename_i p q e1 e2
   obtain ⟨i2, i3⟩ := Qw e2
   have := Xk e1
   refine ⟨fun v hv => ?_, fun v hv => ?_⟩
   ·rcases List.mem_cons.1 hv with rfl | hv
    ·exact this.1
    ·exact i2 v hv
   ·rcases List.mem_cons.1 hv with rfl | hv
    ·exact this.2
    ·exact i3 v hv
  ·cases h
 | [], [], _ :: _, _, h => by simp [Gj] at h
 | [], _ :: _, _, _, h => by simp [Gj] at h
 | _ :: _, [], _, _, h => by simp [Gj] at h
 | _ :: _, _ :: _, [], _, h => by simp [Gj] at h
theorem A9.agg_scal {J : Bk} {H : Hp} {cs : Array Value} {c : Value} (h : A9 J H (.agg cs) c) (hs : ∀ v ∈ cs.toList, Ev.scal v = true) : c = .agg cs := by
 cases h with
 | agg cs ds hz h1 h =>
  congr 1
  apply Array.ext hz.symm
  intro i hi1 hi2
  exact (h i cs[i] ds[i] (Array.getElem?_eq_getElem hi2) (Array.getElem?_eq_getElem hi1)).of_scal (hs _ (by simp))
theorem Gi {t : TypeId} {cs : Array Value} {off : Nat} {v : Value} {d : TypeDesc} (hu : P.underlying t = some d) (hd : I0 d = false) (hv : cs[off]? = some v) : (part t cs off).run P w = .ok v w := by
 have hi : (isAgg t).run P w = .ok false w := by
  simp only [isAgg, Sem.run_bind, run_underlying hu, Result.andThen_ok]
  cases d <;> first | rfl | (simp [I0] at hd)
 simp only [part, Sem.run_bind, hi, Result.andThen_ok, Bool.false_eq_true, if_false, hv]
 rfl
theorem Lq {d : Nat} {xs ys : Array Value} : ∀ {fs : List Field} {k : Nat} {ks : List Nat} {r : Bool}, Ee P fs k = some ks → Gj ks (xs.toList.drop k) (ys.toList.drop k) = some r →
  (Op.eqFields (d + 1) xs ys fs).run P w = .ok r w
 | [], k, ks, r, hf, h => by
  simp only [Ee] at hf; cases hf
  generalize xs.toList.drop k = u at h
  generalize ys.toList.drop k = v at h
  cases u <;> cases v <;> simp [Gj] at h
  subst h
  rfl
 | f :: fs, k, ks, r, hf, h => by
  simp only [Ee] at hf
  split at hf
  ·rename_i ho
   obtain ⟨ho, hn⟩ := ho
   obtain ⟨k0, ks', hks, hrest, hkind⟩ : ∃ k0 ks', ks = k0 :: ks' ∧ Ee P fs (k + 1) = some ks' ∧ ∃ d', P.underlying f.type = some d' ∧ I0 d' = false ∧
     ∀ (u v : Value) (p : Bool), Ij k0 u v = some p → (Op.equalIn (d + 1) f.type u v).run P w = .ok p w := by
    split at hf
    ·rename_i k1 ks1 hu hr; cases hf
     refine ⟨0, _, rfl, hr, _, hu, rfl, fun u v p e => ?_⟩
     unfold Ij at e
     split at e <;> first | (split at e <;> first | (cases e; subst_vars; simp [Op.equalIn, run_underlying hu]; done) | (cases e; subst_vars; simp [Op.equalIn, run_underlying hu]; rfl) | cases e) | (rename_i e0; cases e0) | cases e
    ·rename_i ks1 hu hr; cases hf
     refine ⟨1, _, rfl, hr, _, hu, rfl, fun u v p e => ?_⟩
     unfold Ij at e
     split at e
     ·rename_i e0; cases e0
     ·rename_i a1 b1 _; cases e
      simp only [Op.equalIn, Sem.run_bind, run_underlying hu, Result.andThen_ok]
      cases a1 <;> cases b1 <;> rfl
     ·rename_i e0; cases e0
     ·cases e
    ·rename_i ks1 hu hr; cases hf
     refine ⟨2, _, rfl, hr, _, hu, rfl, fun u v p e => ?_⟩
     unfold Ij at e
     split at e
     ·rename_i e0; cases e0
     ·rename_i e0; cases e0
     ·rename_i a1 b1 _; cases e
      simp only [Op.equalIn, Sem.run_bind, run_underlying hu, Result.andThen_ok, Sem.run_pure]
      rw [← Sg, beq_toListBytes]
     ·cases e
    ·cases hf
   obtain ⟨d', u1, u2, u3⟩ := hkind
   subst hks
   cases hx : xs.toList.drop k with
   | nil => rw [hx] at h; simp [Gj] at h
   | cons x lx =>
    cases hy : ys.toList.drop k with
    | nil => rw [hx, hy] at h; simp [Gj] at h
    | cons y ly =>
     rw [hx, hy] at h
     have nx : xs.toList[k]? = some x ∧ xs.toList.drop (k + 1) = lx := by
      constructor
      ·have : (xs.toList.drop k)[0]? = some x := by rw [hx]; rfl
       simpa using this
      ·rw [← List.drop_drop, hx]; rfl
     have ny : ys.toList[k]? = some y ∧ ys.toList.drop (k + 1) = ly := by
      constructor
      ·have : (ys.toList.drop k)[0]? = some y := by rw [hy]; rfl
       simpa using this
      ·rw [← List.drop_drop, hy]; rfl
     simp only [Gj] at h
     split at h
     ·rename_i p q e1 e2
      cases h
      have ih := Lq (d := d) (xs := xs) (ys := ys) hrest (by rw [nx.2, ny.2]; exact e2)
      have px : xs[f.offset]? = some x := by rw [ho, ← Array.getElem?_toList]; exact nx.1
      have py : ys[f.offset]? = some y := by rw [ho, ← Array.getElem?_toList]; exact ny.1
      simp only [Op.eqFields, hn, ne_eq, not_false_eq_true, if_true, Sem.run_bind, Gi u1 u2 px, Gi u1 u2 py, Result.andThen_ok, u3 x y p e1, Sem.run_ite, ih]
      cases p <;> simp
     ·cases h
  ·cases hf
theorem Vu {neg : Bool} {op : BinOp} {t ty : TypeId} {x1 x2 : Operand} {p q : X} {fs : Array Field} {ks : List Nat} (hop : o.op = .binOp op t x1 x2 ty) (hn : (op = .eql ∧ neg = false) ∨ (op = .neq ∧ neg = true))
  (ht : P.underlying t = some (.struct fs)) (hf : Ee P fs.toList 0 = some ks) (hp : P.stoodInHeld t = false) (hg : P.eqGuardType P.depth t = false)
  (h1 : cx x1 = some p) (h2 : cx x2 = some q) (R : B9 B N nt J s a w) (hd : ∀ d, o.dst = some d → d < nt) {f : FV} {s' : St}
  (h : J6 s neg ks p q = some (f, s')) : Gl P B N nt o J s a w f s' := by
 unfold J6 at h
 split at h
 ·rename_i u v e1 e2
  split at h
  ·rename_i r hr
   simp only [St.val] at h; cases h
   obtain ⟨s1, s2⟩ := Qw hr
   have hF : P.fieldsOf t = fs := by simp [Program.fieldsOf, ht]
   have hq : (Op.equalIn 10000 t (.agg u) (.agg v)).run P w = .ok r w := by
    rw [run_equalIn_agg w 9999 t u v (by rw [hF]; exact ht) hp, hF]
    exact Lq (d := 9998) hf (by simpa using hr)
   refine .of_val R hd (Q6 hop ((D7 R h1 e1).agg_scal s1) ((D7 R h2 e2).agg_scal s2) (run_eqGuard_agg w op t x1 x2 u v hg) ?_) (.bool _)
   rcases hn with ⟨rfl, rfl⟩ | ⟨rfl, rfl⟩
   ·rw [run_eql_struct, hq]; rfl
   ·rw [run_neq_struct, hq]; rfl
  ·cases h
 ·cases h
theorem hG {op : UnOp} {t : TypeId} {x1 : Operand} {p : X} (hop : o.op = .unOp op t x1) (h1 : cx x1 = some p) (R : B9 B N nt J s a w) (hd : ∀ d, o.dst = some d → d < nt) {f : FV} {s' : St}
  (h : Ub s op p = some (f, s')) : Gl P B N nt o J s a w f s' := by
 unfold Ub at h
 split at h
 ·rename_i u e1
  cases hb : Ui op u with
  | none => simp [Bd, hb] at h
  | some z =>
   simp only [Bd, hb] at h; cases h
   have r1 := D7 R h1 e1
   unfold Ui at hb
   split at hb
   ·cases hb
    refine .of_val R hd ?_ (.int _ _)
    simp only [execOp, hop, r1.int_inv]
    exact Az rfl
   ·cases hb
    refine .of_val R hd ?_ (.bool _)
    simp only [execOp, hop, r1.bool_inv]
    exact Az rfl
   ·cases hb
 ·cases h
theorem W6 {sr ds : TypeId} {k k0 : IntKind} {x1 : Operand} {p : X} (hop : o.op = .convert sr ds x1) (hs : P.underlying sr = some (.int k0)) (hk : P.underlying ds = some (.int k)) (h1 : cx x1 = some p) (R : B9 B N nt J s a w)
  (hd : ∀ d, o.dst = some d → d < nt) {f : FV} {s' : St} (h : D4 s k p = some (f, s')) : Gl P B N nt o J s a w f s' := by
 unfold D4 at h
 split at h
 ·rename_i k1 n e1
  simp only [St.val] at h; cases h
  refine .of_val R hd ?_ (.int _ _)
  simp only [execOp, hop, (D7 R h1 e1).int_inv]
  refine Az ?_
  simp [convert, run_underlying hs, run_underlying hk, Conv.intToInt]
 ·cases h
theorem bT {sr ds : TypeId} {x1 : Operand} {p : X} (hop : o.op = .convert sr ds x1) (hs : P.underlying sr = some .string) (hk : P.underlying ds = some .string) (h1 : cx x1 = some p) (R : B9 B N nt J s a w)
  (hd : ∀ d, o.dst = some d → d < nt) {f : FV} {s' : St} (h : Ke s p = some (f, s')) : Gl P B N nt o J s a w f s' := by
 unfold Ke at h
 split at h
 ·rename_i b e1
  simp only [St.val] at h; cases h
  refine .of_val R hd ?_ (.str _)
  simp only [execOp, hop, (D7 R h1 e1).str_inv]
  refine Az ?_
  simp [convert, run_underlying hs, run_underlying hk]
 ·cases h
theorem Mb {t : TypeId} {n : Nat} {agg : Bool} (h : X4 P t = some (n, agg)) : ∃ i d, P.info? t = some i ∧ P.underlying t = some d ∧ I0 d = agg ∧ i.size = n ∧ (agg = false → n = 1) := by
 unfold X4 at h
 split at h
 ·rename_i i d h1 h2
  split at h
  ·rename_i h3; cases h; exact ⟨i, d, h1, h2, h3, rfl, by simp⟩
  ·rename_i h3
   split at h
   ·rename_i h4; cases h; exact ⟨i, d, h1, h2, by simpa using h3, h4, fun _ => rfl⟩
   ·cases h
 ·cases h
theorem Me {t : TypeId} {d : TypeDesc} (h : P.underlying t = some d) : (isAgg t).run P w = .ok (I0 d) w := by
 simp only [isAgg, Sem.run_bind, run_underlying h, Result.andThen_ok]
 cases d <;> rfl
theorem Bg {t : TypeId} {i : TypeInfo} (h : P.info? t = some i) : (sizeOf t).run P w = .ok i.size w := by
 simp [sizeOf, typeInfo, h]
theorem bX {t : TypeId} {x1 : Operand} {p : X} {k n : Nat} {agg : Bool} {fs : Array Field} {fd : Field} (hop : o.op = .field t x1 k) (ht : P.underlying t = some (.struct fs)) (hk : fs[k]? = some fd) (hi : X4 P fd.type = some (n, agg))
  (h1 : cx x1 = some p) (R : B9 B N nt J s a w) (hd : ∀ d, o.dst = some d → d < nt) {f : FV} {s' : St} (h : Y2 s fd.offset n agg p = some (f, s')) : Gl P B N nt o J s a w f s' := by
 unfold Y2 at h
 obtain ⟨i, d, i1, i2, i3, i4, _⟩ := Mb hi
 split at h
 ·rename_i cs e1
  have hr := D7 R h1 e1
  generalize hc : a.eval x1 = c at hr
  cases hr with
  | agg cs ds hz ho hh =>
   have hrun : ∀ v, (part fd.type ds fd.offset).run P w = .ok v w → (execOp a.eval o).run P w = .ok (.value v) w := fun v hv => by
    simp only [execOp, hop, hc]
    refine Az ?_
    simp only [Instr.field, Sem.run_bind, run_underlying ht, Result.andThen_ok, hk, asAgg, Sem.run_pure, hv]
   split at h
   ·rename_i hag
    simp only [St.val] at h; cases h
    refine .of_val R hd (hrun (.agg (ds.extract fd.offset (fd.offset + n))) ?_) ?_
    ·simp only [part, Sem.run_bind, Me i2, Result.andThen_ok, i3, hag, if_true, Bg i1, i4, Sem.run_pure]
    ·refine .agg _ _ (by simp [hz]) (fun j x hx => ?_) fun j x y hx hy => ?_
     ·rw [Array.getElem?_extract] at hx
      split at hx
      ·exact ho _ x hx
      ·cases hx
     ·rw [Array.getElem?_extract] at hx hy
      split at hx
      ·split at hy
       ·exact hh _ x y hx hy
       ·cases hy
      ·cases hx
   ·rename_i hag
    cases hv : cs[fd.offset]? with
    | none => simp [Bd, hv] at h
    | some v =>
     simp only [Bd, hv] at h; cases h
     have hlt : fd.offset < ds.size := by
      have := (Array.getElem?_eq_some_iff.1 hv).1
      omega
     refine .of_val R hd (hrun ds[fd.offset] ?_) (hh _ _ _ hv (Array.getElem?_eq_getElem hlt))
     exact Gi i2 (by simpa [hag] using i3) (Array.getElem?_eq_getElem hlt)
 ·cases h
theorem cR {t : TypeId} {x1 x2 : Operand} {p q : X} (hop : o.op = .index t x1 x2) (ht : P.underlying t = some .string) (h1 : cx x1 = some p) (h2 : cx x2 = some q) (R : B9 B N nt J s a w)
  (hd : ∀ d, o.dst = some d → d < nt) {f : FV} {s' : St} (h : Ky s p q = some (f, s')) : Gl P B N nt o J s a w f s' := by
 unfold Ky at h
 split at h
 ·rename_i b k i e1 e2
  split at h
  ·rename_i hi
   split at h
   ·rename_i c hc
    simp only [St.val] at h; cases h
    refine .of_val R hd ?_ (.int _ _)
    simp only [execOp, hop, (D7 R h1 e1).str_inv, (D7 R h2 e2).int_inv]
    refine Az ?_
    simp only [Instr.index, asIntOf, Sem.run_bind, Sem.run_pure, Result.andThen_ok, run_underlying ht, hi, if_true, hc]
   ·cases h
  ·cases h
 ·cases h
theorem Zu {t e : TypeId} {x1 x2 : Operand} {p q : X} {n : Nat} (hop : o.op = .index t x1 x2) (ht : P.underlying t = some (.array n e)) (hi : X4 P e = some (1, false)) (h1 : cx x1 = some p) (h2 : cx x2 = some q) (R : B9 B N nt J s a w)
  (hd : ∀ d, o.dst = some d → d < nt) {f : FV} {s' : St} (h : O3 s n p q = some (f, s')) : Gl P B N nt o J s a w f s' := by
 unfold O3 at h
 obtain ⟨i, d, i1, i2, i3, i4, _⟩ := Mb hi
 split at h
 ·rename_i cs k z e1 e2
  split at h
  ·rename_i hz
   have hr := D7 R h1 e1
   generalize hc : a.eval x1 = c at hr
   cases hr with
   | agg cs ds hsz ho hh =>
    cases hv : cs[z.toNat]? with
    | none => simp [Bd, hv] at h
    | some v =>
     simp only [Bd, hv] at h; cases h
     have hlt : z.toNat < ds.size := by
      have := (Array.getElem?_eq_some_iff.1 hv).1
      omega
     refine .of_val R hd ?_ (hh _ _ _ hv (Array.getElem?_eq_getElem hlt))
     simp only [execOp, hop, hc, (D7 R h2 e2).int_inv]
     refine Az ?_
     simp only [Instr.index, asIntOf, Sem.run_bind, Sem.run_pure, Result.andThen_ok, run_underlying ht, hz, and_self, if_true, Bg i1, i4, Nat.mul_one]
     exact Gi i2 i3 (Array.getElem?_eq_getElem hlt)
  ·cases h
 ·cases h
theorem cK {x1 : Operand} {p : X} {k : Nat} (hop : o.op = .extract x1 k) (h1 : cx x1 = some p) (R : B9 B N nt J s a w)
  (hd : ∀ d, o.dst = some d → d < nt) {f : FV} {s' : St} (h : Kd s p k = some (f, s')) : Gl P B N nt o J s a w f s' := by
 unfold Kd at h
 split at h
 ·rename_i vs e1
  have hr := D7 R h1 e1
  generalize hc : a.eval x1 = c at hr
  cases hr with
  | tup cs ds hz hh =>
   cases hv : vs[k]? with
   | none => simp [Bd, hv] at h
   | some v =>
    simp only [Bd, hv] at h; cases h
    have hlt : k < ds.size := by
     have := (Array.getElem?_eq_some_iff.1 hv).1
     omega
    refine .of_val R hd ?_ (hh _ _ _ hv (Array.getElem?_eq_getElem hlt))
    simp only [execOp, hop, hc]
    refine Az ?_
    simp only [Instr.extract, Array.getElem?_eq_getElem hlt]
    rfl
 ·cases h
theorem Y4 (R : B9 B N nt J s a w) : ∀ {xs : List Operand} {ys : List X} {vs : List Value}, Pd xs = some ys → Dw s.ρ ys = some vs → A7 J s.H vs (xs.map a.eval)
 | [], ys, vs, h1, h2 => by
  simp only [Pd] at h1; cases h1
  simp only [Dw] at h2; cases h2
  exact .nil
 | x :: xs, ys, vs, h1, h2 => by
  simp only [Pd] at h1
  split at h1
  ·rename_i y ys' e1 e2
   cases h1
   simp only [Dw] at h2
   split at h2
   ·rename_i v vs' e3 e4
    cases h2
    exact .cons (D7 R e1 e3) (Y4 R e2 e4)
   ·cases h2
  ·cases h1
theorem fY {g : FuncId} {first caps : Array Operand} {ys : List X} (hop : o.op = .makeFunc (.func g) first caps) (hf : first.isEmpty = true) (h1 : Pd caps.toList = some ys) (R : B9 B N nt J s a w)
  (hd : ∀ d, o.dst = some d → d < nt) {f : FV} {s' : St} (h : Uf s g ys = some (f, s')) : Gl P B N nt o J s a w f s' := by
 unfold Uf at h
 split at h
 ·rename_i vs e1
  simp only [St.val] at h; cases h
  have hr := Y4 R h1 e1
  have hfe : first = #[] := by simpa using hf
  refine .of_val R hd (v := .func (.func g) #[] (caps.map a.eval)) ?_ (.fn g _ _ ?_ fun i x y hx hy => ?_)
  ·simp only [execOp, hop, hfe]
   refine Az ?_
   simp [Instr.makeFunc]
  ·have := hr.1
   simpa using this
  ·refine hr.2 i x y (by simpa using hx) ?_
   simpa using hy
 ·cases h
theorem aI {c : Call} {x1 : Operand} {p : X} {t e : TypeId} (hop : o.op = .call c) (hb : c.callee = .builtin .len) (ha : c.args.toList = [x1]) (hat : c.argTypes[0]? = some t) (ht : P.underlying t = some (.slice e)) (h1 : cx x1 = some p) (R : B9 B N nt J s a w)
  (hd : ∀ d, o.dst = some d → d < nt) {f : FV} {s' : St} (h : Lm s p = some (f, s')) : Gl P B N nt o J s a w f s' := by
 have haa : c.args = #[x1] := by apply Array.toList_inj.1; rw [ha]
 have hrun : ∀ b n m, a.eval x1 = .slice b n m → (execOp a.eval o).run P w = .ok (.value (goInt n)) w := fun b n m he => by
  simp only [execOp, hop, resolve, hb, haa]
  simp [invoke, builtin, Builtin.len_, hat, he, run_underlying ht]
 unfold Lm at h
 split at h
 ·rename_i e1
  simp only [St.val] at h; cases h
  have hr := D7 R h1 e1
  generalize hc : a.eval x1 = cv at hr
  cases hr
  exact .of_val R hd (hrun _ _ _ hc) (.int _ _)
 ·rename_i id off e len cap e1
  simp only [St.val] at h; cases h
  have hr := D7 R h1 e1
  generalize hc : a.eval x1 = cv at hr
  cases hr
  exact .of_val R hd (hrun _ _ _ hc) (.int _ _)
 ·cases h
theorem Y8 {c : Call} {x1 : Operand} {p : X} {t : TypeId} (hop : o.op = .call c) (hb : c.callee = .builtin .len) (ha : c.args.toList = [x1]) (hat : c.argTypes[0]? = some t) (ht : P.underlying t = some .string) (h1 : cx x1 = some p) (R : B9 B N nt J s a w)
  (hd : ∀ d, o.dst = some d → d < nt) {f : FV} {s' : St} (h : Cn s p = some (f, s')) : Gl P B N nt o J s a w f s' := by
 have haa : c.args = #[x1] := by apply Array.toList_inj.1; rw [ha]
 unfold Cn at h
 split at h
 ·rename_i b e1
  simp only [St.val] at h; cases h
  refine .of_val R hd (v := goInt b.size) ?_ (.int _ _)
  simp only [execOp, hop, resolve, hb, haa]
  simp [invoke, builtin, Builtin.len_, hat, (D7 R h1 e1).str_inv, run_underlying ht]
 ·cases h
theorem mP {c : Call} {x1 x2 : Operand} {p q : X} (hop : o.op = .call c) (hb : c.callee = .builtin .max) (ha : c.args.toList = [x1, x2]) (h1 : cx x1 = some p) (h2 : cx x2 = some q) (R : B9 B N nt J s a w)
  (hd : ∀ d, o.dst = some d → d < nt) {f : FV} {s' : St} (h : pN s p q = some (f, s')) : Gl P B N nt o J s a w f s' := by
 have haa : c.args = #[x1, x2] := by apply Array.toList_inj.1; rw [ha]
 unfold pN at h
 split at h
 ·rename_i k u k' v e1 e2
  simp only [St.val] at h; cases h
  refine .of_val R hd ?_ (.int _ _)
  simp only [execOp, hop, resolve, hb, haa]
  simp [invoke, builtin, Builtin.max_, Builtin.max2, (D7 R h1 e1).int_inv, (D7 R h2 e2).int_inv]
 ·cases h
theorem kO {c : Call} {x1 x2 : Operand} {p q : X} (hop : o.op = .call c) (hb : c.callee = .builtin .min) (ha : c.args.toList = [x1, x2]) (h1 : cx x1 = some p) (h2 : cx x2 = some q) (R : B9 B N nt J s a w)
  (hd : ∀ d, o.dst = some d → d < nt) {f : FV} {s' : St} (h : qJ s p q = some (f, s')) : Gl P B N nt o J s a w f s' := by
 have haa : c.args = #[x1, x2] := by apply Array.toList_inj.1; rw [ha]
 unfold qJ at h
 split at h
 ·rename_i k u k' v e1 e2
  simp only [St.val] at h; cases h
  refine .of_val R hd ?_ (.int _ _)
  simp only [execOp, hop, resolve, hb, haa]
  simp [invoke, builtin, Builtin.min_, Builtin.min2, (D7 R h1 e1).int_inv, (D7 R h2 e2).int_inv]
 ·cases h
theorem Zp {x1 : Operand} {p : X} (hop : o.op = .nilCheck x1) (h1 : cx x1 = some p) (R : B9 B N nt J s a w)
  (hd : ∀ d, o.dst = some d → d < nt) {f : FV} {s' : St} (h : Gd s p = some (f, s')) : Gl P B N nt o J s a w f s' := by
 unfold Gd at h
 split at h
 ·rename_i g a1 c1 e1
  simp only [St.val] at h; cases h
  have hr := D7 R h1 (v := .func (.func g) a1 c1) (by simp [Av, e1])
  generalize hc : a.eval x1 = cv at hr
  cases hr with
  | fn _ cs ds hs h => exact .of_val R hd (by simp only [execOp, hop, hc]; rfl) (.fn _ _ _ hs h)
 ·rename_i ad e1
  simp only [St.val] at h; cases h
  have hr := D7 R h1 (v := .pointer (some ad)) (by simp [Av, e1])
  generalize hc : a.eval x1 = cv at hr
  cases hr with
  | ptr id off gen o2 a2 h hg hv => exact .of_val R hd (by simp only [execOp, hop, hc]; rfl) (.ptr _ _ _ _ _ h hg hv)
 ·cases h
end
section
variable {P : Program} {B N nt : Nat} {o : Oper} {J : Bk} {s : St} {a : Act} {w : World}
theorem A9.vc {J : Bk} {H : Hp} {v c : Value} {vs : List Value} (h : A9 J H v c) (hv : Ev.vc v = some vs) : A7 J H vs c.cells.toList ∧ ∀ x ∈ vs, x.oneCell' = true := by
 have single : ∀ {v c : Value}, A9 J H v c → v.oneCell' = true → c.cells = #[c] → Ev.vc v = some [v] → Ev.vc v = some vs → A7 J H vs c.cells.toList ∧ ∀ x ∈ vs, x.oneCell' = true := fun h h1 h2 h3 h4 => by
  rw [h3] at h4; cases h4
  rw [h2]
  exact ⟨.cons h .nil, by simpa using h1⟩
 cases h with
 | agg cs ds hs h1 h =>
  simp only [Ev.vc] at hv; cases hv
  refine ⟨⟨by simpa [Value.cells] using hs, fun i x y hx hy => h i x y (by simpa using hx) (by simpa [Value.cells] using hy)⟩, fun x hx => ?_⟩
  obtain ⟨i, hi⟩ := List.getElem?_of_mem hx
  exact h1 i x (by simpa using hi)
 | tup cs ds hs h => simp [Ev.vc] at hv
 | int k n => exact single (.int k n) rfl rfl rfl hv
 | bool b => exact single (.bool b) rfl rfl rfl hv
 | str s => exact single (.str s) rfl rfl rfl hv
 | nptr => exact single .nptr rfl rfl rfl hv
 | nsl => exact single .nsl rfl rfl rfl hv
 | nfn => exact single .nfn rfl rfl rfl hv
 | ptr id off gen o a h hg hv2 => exact single (.ptr id off gen o a h hg hv2) rfl rfl rfl hv
 | sl id off e len cap o a ccap h hg hl hc hv2 => exact single (.sl id off e len cap o a ccap h hg hl hc hv2) rfl rfl rfl hv
 | fn f cs ds hs h => exact single (.fn f cs ds hs h) rfl rfl rfl hv
theorem opc (R : B9 B N nt J s a w) {x : Operand} {y : X} {vs : List Value} (hx : cx x = some y) (hv : Nm s.ρ y = some vs) : A7 J s.H vs (a.eval x).cells.toList ∧ ∀ v ∈ vs, v.oneCell' = true := by
 unfold Nm at hv
 split at hv
 ·rename_i v hv2
  exact (D7 R hx hv2).vc hv
 ·cases hv
def S5 (J : Bk) (s : St) (own : Nat → Option Nat) (ad : Ad) (c : Value) : Prop :=
 match ad with
 | .hp id off gen => A9 J s.H (.pointer (some ⟨id, off, some gen⟩)) c
 | .box t g off => (g < s.gn ∧ s.ρ t ≠ .junk) ∧ ∀ cs, s.ρ t = .bx g cs → ∃ b, own t = some b ∧ c = .pointer (some ⟨b, off, none⟩)
theorem Mg (R : B9 B N nt J s a w) {own : Nat → Option Nat} (ho : K8 N J s.H w s.ρ s.gn a.tmps own) {x : Operand} {y : X} {ad : Ad} (hx : cx x = some y) (ha : Jz s.ρ y = some ad) : S5 J s own ad (a.eval x) := by
 cases y with
 | t t =>
  have hxt : x = .tmp t := by cases x <;> simp [cx] at hx <;> simp_all
  subst hxt
  have hf := ho.ok t
  unfold Pf at hf
  simp only [Jz] at ha
  split at ha
  ·rename_i g cs hρ
   cases ha
   simp only [hρ] at hf
   obtain ⟨b, ds, e, h1, h2, _⟩ := hf
   exact ⟨⟨ho.gbx t g cs hρ, fun e => by rw [hρ] at e; cases e⟩, fun cs' _ => ⟨b, h1, h2⟩⟩
  ·rename_i t' g off hρ
   cases ha
   simp only [hρ] at hf
   exact ⟨ho.gvp t t' g off hρ, hf⟩
  ·rename_i id off gen hρ
   cases ha
   simp only [hρ] at hf
   exact hf
  ·cases ha
 | c v => simp [Jz] at ha
 | f g => simp [Jz] at ha
theorem S8 {ρ : Nat → FV} {t g off : Nat} (h : (Ad.box t g off).live ρ = true) : ∃ cs, ρ t = .bx g cs := by
 simp only [Ad.live] at h
 split at h
 ·rename_i g' cs hρ
  have : g' = g := by simpa using h
  subst this
  exact ⟨cs, hρ⟩
 ·cases h
theorem bE {ad : Ad} {k : Nat} {c : Value} (R : B9 B N nt J s a w) (hd : ∀ d, o.dst = some d → d < nt) (hrun : ∀ p, c = .pointer (some p) → (execOp a.eval o).run P w = .ok (.value (.pointer (some (p.add k)))) w)
  (hc : ∀ own, K8 N J s.H w s.ρ s.gn a.tmps own → S5 J s own ad c) (hp : ∃ p, c = .pointer (some p)) : Gl P B N nt o J s a w (ad.fv k) s := by
 obtain ⟨p, rfl⟩ := hp
 cases ad with
 | hp id off gen =>
  obtain ⟨own, ho⟩ := R.fr
  have h1 := hc own ho
  simp only [S5] at h1
  cases h1 with
  | ptr _ _ _ o2 a2 h hg hv =>
   refine .of_val R hd (hrun _ rfl) (.ptr id (off + k) gen o2 _ h hg fun e => ?_)
   obtain ⟨l, hl, ha⟩ := hv e
   refine ⟨l, hl, ?_⟩
   rw [ha, Addr.add_lit]
   congr 1
   omega
 | box t g off =>
  obtain ⟨own0, ho0⟩ := R.fr
  refine ⟨_, _, w, J, hrun p rfl, .inl rfl, .refl _ _ _ _ _, R.put_vp hd (hc own0 ho0).1 fun own ho cs hcs => ?_⟩
  obtain ⟨b, hb, he⟩ := (hc own ho).2 cs hcs
  cases he
  exact ⟨b, hb, by rw [Addr.add_lit]⟩
theorem Z8 (R : B9 B N nt J s a w) {x : Operand} {y : X} {ad : Ad} (hx : cx x = some y) (ha : Jz s.ρ y = some ad) (hw : ∀ t g off, ad = .box t g off → ∃ cs, s.ρ t = .bx g cs) : ∃ p, a.eval x = .pointer (some p) := by
 obtain ⟨own, ho⟩ := R.fr
 have h := Mg R ho hx ha
 cases ad with
 | hp id off gen =>
  simp only [S5] at h
  generalize a.eval x = c at h
  cases h
  exact ⟨_, rfl⟩
 | box t g off =>
  obtain ⟨cs, hcs⟩ := hw t g off rfl
  obtain ⟨b, _, he⟩ := h.2 cs hcs
  exact ⟨_, he⟩
theorem Zz {t : TypeId} {x1 : Operand} {p : X} {k : Nat} {fs : Array Field} {fd : Field} {i : TypeInfo} (hop : o.op = .fieldAddr t x1 k) (ht : P.underlying t = some (.struct fs)) (hk : fs[k]? = some fd) (hi : P.info? fd.type = some i) (hz : i.size ≠ 0)
  (h1 : cx x1 = some p) (R : B9 B N nt J s a w) (hd : ∀ d, o.dst = some d → d < nt) {f : FV} {s' : St} (h : Ge s fd.offset p = some (f, s')) : Gl P B N nt o J s a w f s' := by
 unfold Ge at h
 split at h
 ·rename_i ad ha
  split at h
  ·rename_i hlive
   cases h
   have hp := Z8 R h1 ha fun t g off e => by subst e; exact S8 hlive
   refine bE R hd (c := a.eval x1) (fun q hq => ?_) (fun own ho => Mg R ho h1 ha) hp
   simp only [execOp, hop, hq]
   refine Az ?_
   simp only [Instr.fieldAt, Sem.run_bind, run_underlying ht, Result.andThen_ok, hk, Instr.sureAddr, Sem.run_pure, fieldPlace, Bg hi, Sem.run_ite, hz, if_false]
  ·cases h
 ·cases h
theorem Yw {t e : TypeId} {x1 x2 : Operand} {p q : X} {i : TypeInfo} (hop : o.op = .indexAddr t x1 x2) (ht : P.underlying t = some (.slice e)) (hi : P.info? e = some i) (h1 : cx x1 = some p) (h2 : cx x2 = some q)
  (R : B9 B N nt J s a w) (hd : ∀ d, o.dst = some d → d < nt) {f : FV} {s' : St} (h : B4 s i.size p q = some (f, s')) : Gl P B N nt o J s a w f s' := by
 unfold B4 at h
 split at h
 ·rename_i id off ez len cap k n e1 e2
  split at h
  ·rename_i hc
   cases h
   obtain ⟨rfl, c1, c2⟩ := hc
   have hr := D7 R h1 e1
   generalize hv : a.eval x1 = c at hr
   cases hr with
   | sl _ _ _ _ _ o2 a2 ccap g1 g2 g3 g4 g5 =>
    have hF : P.elem t = e := by simp [Program.elem, ht]
    refine .of_val R hd (v := .pointer (some (a2.add (n.toNat * i.size)))) ?_ (.ptr id _ _ o2 _ g1 g2 fun e => ?_)
    ·simp only [execOp, hop, hv, (D7 R h2 e2).int_inv]
     refine Az ?_
     rw [run_indexAt_slice w t a2 len ccap k n (by rw [hF]; exact ht), if_pos ⟨c1, c2⟩, hF, Bg hi]
     rfl
    ·obtain ⟨l, hl, ha⟩ := g5 e
     refine ⟨l, hl, ?_⟩
     rcases ha with ⟨ha, _⟩ | ⟨ha, _⟩
     ·omega
     ·rw [ha, Addr.add_lit]
      congr 1
      omega
  ·cases h
 ·cases h
theorem Xt {t e : TypeId} {x1 x2 : Operand} {p q : X} {i : TypeInfo} {len : Nat} (hop : o.op = .indexAddr t x1 x2) (ht : P.underlying t = some (.array len e)) (hi : P.info? e = some i) (h1 : cx x1 = some p) (h2 : cx x2 = some q)
  (R : B9 B N nt J s a w) (hd : ∀ d, o.dst = some d → d < nt) {f : FV} {s' : St} (h : Kl s len i.size p q = some (f, s')) : Gl P B N nt o J s a w f s' := by
 unfold Kl at h
 split at h
 ·rename_i ad k n ha e2
  split at h
  ·rename_i hc
   cases h
   obtain ⟨hlive, c1, c2⟩ := hc
   have hp := Z8 R h1 ha fun t g off e => by subst e; exact S8 hlive
   have hF : P.elem t = e := by simp [Program.elem, ht]
   have hL : P.arrayLen t = len := by simp [Program.arrayLen, ht]
   refine bE R hd (c := a.eval x1) (fun q hq => ?_) (fun own ho => Mg R ho h1 ha) hp
   simp only [execOp, hop, hq, (D7 R h2 e2).int_inv]
   refine Az ?_
   rw [run_indexAt_array w t q k n (by rw [hF, hL]; exact ht), hL, if_pos ⟨c1, c2⟩, hF, Bg hi]
   rfl
  ·cases h
 ·cases h
theorem Zm (R : B9 B N nt J s a w) {own : Nat → Option Nat} (ho : K8 N J s.H w s.ρ s.gn a.tmps own) {ad : Ad} {c : Value} (hc : S5 J s own ad c) {os : List Value} {off : Nat} (hr : B6 s ad = some (os, off)) :
  ∃ b q ds e fr, c = .pointer (some ⟨b, q + off, none⟩) ∧ w.heap[b]? = some (.cells ds e fr) ∧ (∀ (i : Nat) (v : Value), os[i]? = some v → v.oneCell' = true ∧ ∃ d, ds[q + i]? = some d ∧ A9 J s.H v d) := by
 cases ad with
 | hp id off' gen =>
  simp only [S5] at hc
  simp only [B6] at hr
  split at hr
  ·rename_i o1 h1
   split at hr
   ·rename_i hg
    cases hr
    cases hc with
    | ptr _ _ _ o2 a2 g1 g2 g3 =>
     rw [h1] at g1; cases g1
     obtain ⟨l, hl, ha⟩ := g3 hg.symm
     obtain ⟨l', ds, e, lo, hi, b1, b2, b3, b4, b5, b6⟩ := R.wr.row id os h1
     rw [hl] at b1; cases b1
     exact ⟨l.b, l.sh, ds, e, _, by rw [ha], b2, b5⟩
   ·cases hr
  ·cases hr
 | box t g off' =>
  simp only [B6] at hr
  split at hr
  ·rename_i g' cs hρ
   split at hr
   ·rename_i hg
    cases hr
    subst hg
    obtain ⟨b, hb, he⟩ := hc.2 _ hρ
    have hf := ho.ok t
    unfold Pf at hf
    simp only [hρ] at hf
    obtain ⟨b', ds, e, f1, f2, f3, f4, f5⟩ := hf
    rw [hb] at f1; cases f1
    refine ⟨b, 0, ds, e, _, by rw [he, Nat.zero_add], f3, fun i v hv => ⟨f5 v (List.mem_of_getElem? hv), ?_⟩⟩
    obtain ⟨d, hd, hr⟩ := f4.get hv
    exact ⟨d, by simpa using hd, hr⟩
   ·cases hr
  ·cases hr
theorem Nf {t : TypeId} {i : TypeInfo} {d : TypeDesc} {b off n : Nat} {cs : List Value} (hi : P.info? t = some i) (hu : P.underlying t = some d) (hd : I0 d = true) (hn : i.size = n) (hl : cs.length = n)
  (hc : ∀ j v, cs[j]? = some v → w.cell? ⟨b, off + j, none⟩ = some v) : (loadVar t ⟨b, off, none⟩).run P w = .ok (.agg cs.toArray) w := by
 have h := run_loadCells_list (P := P) w ⟨b, off, none⟩ cs fun j v hv => by rw [Addr.add_lit]; exact hc j v hv
 simp only [loadVar, Sem.run_bind, Me hu, Result.andThen_ok, hd, if_true, Bg hi, hn, ← hl, h, Sem.run_pure]
theorem Nj {t : TypeId} {d : TypeDesc} {p : Addr} {v : Value} (hu : P.underlying t = some d) (hd : I0 d = false) (hc : w.cell? p = some v) : (loadVar t p).run P w = .ok v w := by
 simp only [loadVar, Sem.run_bind, Me hu, Result.andThen_ok, hd, Bool.false_eq_true, if_false, run_load, hc]
theorem Wu (R : B9 B N nt J s a w) {ad : Ad} {c : Value} {t : TypeId} {n : Nat} {agg : Bool} {os : List Value} {off : Nat} (hi : X4 P t = some (n, agg)) (hc : ∀ own, K8 N J s.H w s.ρ s.gn a.tmps own → S5 J s own ad c) (hr : B6 s ad = some (os, off))
  {f : FV} {s' : St} (h : (if agg then (if off + n ≤ os.length then s.val (.agg ((os.drop off).take n).toArray) else none) else Bd s os[off]?) = some (f, s')) :
  ∃ p v fv, c = .pointer (some p) ∧ (loadVar t p).run P w = .ok v w ∧ f = .val fv ∧ s' = s ∧ A9 J s.H fv v := by
 obtain ⟨i, d, i1, i2, i3, i4, _⟩ := Mb hi
 obtain ⟨own, ho⟩ := R.fr
 obtain ⟨b, q, ds, e, fr, rfl, hb, hv⟩ := Zm R ho (hc own ho) hr
 split at h
 ·rename_i hag
  split at h
  ·rename_i hle
   simp only [St.val] at h; cases h
   have hget : ∀ j v, ((ds.toList.drop (q + off)).take n)[j]? = some v → w.cell? ⟨b, q + off + j, none⟩ = some v := fun j v hj => by
    rw [List.getElem?_take] at hj
    split at hj
    ·rw [List.getElem?_drop] at hj
     simp only [World.cell?, hb]
     simpa using hj
    ·cases hj
   have hlen : ((ds.toList.drop (q + off)).take n).length = n := by
    have : n = 0 ∨ q + off + n ≤ ds.size := by
     rcases Nat.eq_zero_or_pos n with h0 | h0
     ·exact .inl h0
     ·right
      have hlt : off + (n - 1) < os.length := by omega
      obtain ⟨_, dd, hdd, _⟩ := hv (off + (n - 1)) os[off + (n - 1)] (B7 hlt)
      have := (Array.getElem?_eq_some_iff.1 hdd).1
      omega
    rw [List.length_take, List.length_drop, Array.length_toList]
    omega
   refine ⟨_, .agg ((ds.toList.drop (q + off)).take n).toArray, _, rfl, Nf i1 i2 (i3.trans hag) i4 hlen hget, rfl, rfl, .agg _ _ ?_ (fun j x hx => ?_) fun j x y hx hy => ?_⟩
   ·rw [List.size_toArray, List.size_toArray, hlen]
    simp
    omega
   ·rw [List.getElem?_toArray, List.getElem?_take] at hx
    split at hx
    ·rw [List.getElem?_drop] at hx
     exact (hv _ x hx).1
    ·cases hx
   ·rw [List.getElem?_toArray, List.getElem?_take] at hx hy
    split at hx
    ·rename_i hj
     rw [if_pos hj, List.getElem?_drop] at hy
     rw [List.getElem?_drop] at hx
     obtain ⟨_, dd, hdd, hrr⟩ := hv _ x hx
     have : dd = y := by
      rw [Array.getElem?_toList, show q + off + j = q + (off + j) by omega, hdd] at hy
      exact Option.some.inj hy
     subst this
     exact hrr
    ·cases hx
  ·cases h
 ·rename_i hag
  cases hx : os[off]? with
  | none => simp [Bd, hx] at h
  | some v =>
   simp only [Bd, hx] at h; cases h
   obtain ⟨_, dd, hdd, hrr⟩ := hv off v hx
   exact ⟨_, dd, _, rfl, Nj i2 (by simpa [hag] using i3) (by simp only [World.cell?, hb]; simpa using hdd), rfl, rfl, hrr⟩
theorem Yi {t : TypeId} {x1 : Operand} {p : X} {n : Nat} {agg : Bool} (hop : o.op = .load t x1) (hi : X4 P t = some (n, agg)) (h1 : cx x1 = some p)
  (R : B9 B N nt J s a w) (hd : ∀ d, o.dst = some d → d < nt) {f : FV} {s' : St} (h : Fe s n agg p = some (f, s')) : Gl P B N nt o J s a w f s' := by
 unfold Fe at h
 split at h
 ·rename_i ad ha
  split at h
  ·rename_i os off hr
   obtain ⟨q, v, fv, hq, hrun, rfl, rfl, hv⟩ := Wu (P := P) R hi (fun own ho => Mg R ho h1 ha) hr h
   refine .of_val R hd (v := v) ?_ hv
   simp only [execOp, hop, hq]
   refine Az ?_
   simp only [Instr.loadAt, Instr.sureAddr, Sem.run_bind, Sem.run_pure, Result.andThen_ok, hrun]
  ·cases h
 ·cases h
theorem Xa {m : Md} {t : TypeId} {x1 x2 : Operand} {p q : X} {n : Nat} {agg : Bool} (hm : ∀ id, m.wr id = true → B ≤ id) (hop : o.op = .store t x1 x2) (hdst : o.dst = none) (hi : X4 P t = some (n, agg)) (h1 : cx x1 = some p) (h2 : cx x2 = some q)
  (R : B9 B N nt J s a w) {f : FV} {s' : St} (h : D6 m s n p q = some (f, s')) : Gl P B N nt o J s a w f s' := by
 obtain ⟨i, d, i1, i2, i3, i4, _⟩ := Mb hi
 unfold D6 at h
 split at h
 ·rename_i ad vs ha hvs
  obtain ⟨hc1, hc2⟩ := opc R h2 hvs
  split at h
  ·rename_i os off hr
   split at h
   ·rename_i hn
    have hsize : (a.eval x2).cells.size = i.size := by
     rw [← Array.length_toList, ← hc1.1, hn.1, i4]
    have hexec : ∀ (b q' : Nat) (w' : World), a.eval x1 = .pointer (some ⟨b, q', none⟩) → (storeCells ⟨b, q', none⟩ (a.eval x2).cells.toList).run P w = .ok () w' → (execOp a.eval o).run P w = .ok .skip w' := fun b q' w' e1 e2 => by
     simp only [execOp, hop, e1]
     refine Yz ?_
     simp only [Instr.storeAt, Instr.sureAddr, Sem.run_bind, Sem.run_pure, Result.andThen_ok, storeVar, Bg i1, hsize, ne_eq, not_true_eq_false, if_false, e2]
    obtain ⟨own, ho⟩ := R.fr
    have hado := Mg R ho h1 ha
    cases ad with
    | hp id off' gen =>
     dsimp only at h
     split at h
     ·rename_i hw
      cases h
      simp only [S5] at hado
      simp only [B6] at hr
      split at hr
      ·rename_i o1 g0
       split at hr
       ·rename_i hg
        cases hr
        generalize hx1 : a.eval x1 = c at hado
        cases hado with
        | ptr _ _ _ o2 a2 g1 g2 g3 =>
         rw [g0] at g1; cases g1
         obtain ⟨l, hl, rfl⟩ := g3 hg.symm
         obtain ⟨l', ds, e, lo, hi', b1, b2, b3, b4, b5, b6⟩ := R.wr.row id os g0
         rw [hl] at b1; cases b1
         obtain ⟨r1, r2, r3⟩ := Jw (P := P) R.wr (i := off) (o' := spl os off vs) g0 hl (hm id hw.1) hc1 hc2 (by omega) (.inl ⟨rfl, by omega⟩)
         refine ⟨_, undef, _, J, hexec _ _ _ hx1 r1, .inr ⟨rfl, rfl⟩, r2.mono R.hN, ?_⟩
         rw [hdst]
         exact R.move r2 r3
       ·cases hr
      ·cases hr
     ·cases h
    | box t' g off' =>
     dsimp only at h
     cases h
     simp only [B6] at hr
     split at hr
     ·rename_i g' cs hρ
      split at hr
      ·rename_i hg
       cases hr
       subst hg
       obtain ⟨b, hb, he⟩ := hado.2 _ hρ
       obtain ⟨r1, r2, r3⟩ := Xc (P := P) R (i := off) hρ hc1 hc2 (by omega) ho hb
       refine ⟨_, undef, _, J, hexec _ _ _ he r1, .inr ⟨rfl, rfl⟩, r2, ?_⟩
       rw [hdst]
       exact r3
      ·cases hr
     ·cases hr
   ·cases h
  ·cases h
 ·cases h
theorem Dd {t : TypeId} {z : List Value} (h : Fv P t = some z) : ∃ i zv, P.info? t = some i ∧ i.zero = some zv ∧ zv.cells.toList = z ∧ z.length = i.size ∧ z.all scal = true ∧ 0 < i.size := by
 unfold Fv at h
 split at h
 ·rename_i i hi
  split at h
  ·rename_i zv hz
   split at h
   ·rename_i hc
    cases h
    refine ⟨i, zv, hi, hz, ?_, hc.1, hc.2.1, hc.2.2⟩
    cases zv <;> rfl
   ·cases h
  ·cases h
 ·cases h
theorem A7.zero {J : Bk} {H : Hp} {z : List Value} (h : z.all Ev.scal = true) : A7 J H z z := A7.scal h
theorem E9 {z : List Value} (h : z.all Ev.scal = true) : ∀ v ∈ z, v.oneCell' = true := fun v hv => Tg (List.all_eq_true.1 h v hv)
theorem G2 {t : TypeId} {v : Value} : (newVar t v).run P w = .ok ⟨w.heap.size, 0, none⟩ (w.alloc (.cells v.cells t)) := by
 simp [newVar, newRow]
theorem bA {t : TypeId} {z : List Value} {d : Nat} (hop : o.op = .alloc t) (hdst : o.dst = some d) (hz : Fv P t = some z) (R : B9 B N nt J s a w) (hd : d < nt) {f : FV} {s' : St} (h : Eh s z = some (f, s')) : Gl P B N nt o J s a w f s' := by
 simp only [Eh] at h; cases h
 obtain ⟨i, zv, z1, z2, z3, z4, z5, z6⟩ := Dd hz
 refine ⟨_, .pointer (some ⟨w.heap.size, 0, none⟩), w.alloc (.cells zv.cells t), J, ?_, .inl rfl, (Tr.alloc J s.H w _).mono R.hN, ?_⟩
 ·simp only [execOp, hop]
  refine Az ?_
  simp [Instr.alloc, zeroValue, typeInfo, z1, z2, G2]
 ·rw [hdst]
  exact R.put_bx hd t (by rw [z3]; exact A7.scal z5) (E9 z5)
theorem bG {t : TypeId} {z : List Value} {d : Nat} (hop : o.op = .alloc t) (hdst : o.dst = some d) (hz : Fv P t = some z) (R : B9 B N nt J s a w) (hd : d < nt) {f : FV} {s' : St} (h : Qn s d z = some (f, s')) : Gl P B N nt o J s a w f s' := by
 unfold Qn at h
 split at h
 ·rename_i hj
  cases h
  obtain ⟨i, zv, z1, z2, z3, z4, z5, z6⟩ := Dd hz
  refine ⟨_, .pointer (some ⟨w.heap.size, 0, none⟩), w.alloc (.cells zv.cells t), J, ?_, .inl rfl, (Tr.alloc J s.H w _).mono R.hN, ?_⟩
  ·simp only [execOp, hop]
   refine Az ?_
   simp [Instr.alloc, zeroValue, typeInfo, z1, z2, G2]
  ·rw [hdst]
   exact R.put_bd hd t hj (by rw [z3]; exact A7.scal z5) (E9 z5)
 ·cases h
theorem Fh {t : TypeId} {cs : List Value} {ds : Array Value} {v : Value} {f : Value} {lo hi : Nat} {w0 : World} (R0 : B9 B N nt J s a w0) (hB : B ≤ s.H.length) (ht0 : Tr B N J s.H w J s.H w0) (hd : ∀ d, o.dst = some d → d < nt)
  (hrun : (execOp a.eval o).run P w = .ok (.value v) (w0.alloc (.cells ds t (lo, hi)))) (hl : cs.length ≤ ds.size) (hv : ∀ (i : Nat) (x y : Value), cs[i]? = some x → ds[i]? = some y → A9 J s.H x y)
  (h1 : ∀ v ∈ cs, v.oneCell' = true) (hfz : ∀ i, i < ds.size → ¬ (lo ≤ i ∧ i < hi)) (hf : ∀ J' , J' s.H.length = some ⟨w0.heap.size, 0, ds.size⟩ → A9 J' (s.H ++ [cs]) f v) :
  Gl P B N nt o J s a w (.val f) { s with H := s.H ++ [cs] } := by
 obtain ⟨t1, t2⟩ := bW R0.wr hB t lo hi hl hv h1 hfz
 have R1 := R0.move t1 t2
 exact ⟨_, v, _, _, hrun, .inl rfl, ht0.trans (t1.mono R0.hN), R1.put_val (s := { s with H := s.H ++ [cs] }) hd (hf _ (by simp [Bk.add]))⟩
theorem aY {t : TypeId} {z : List Value} (hop : o.op = .alloc t) (hz : Fv P t = some z) (R : B9 B N nt J s a w) (hB : B ≤ s.H.length) (hd : ∀ d, o.dst = some d → d < nt) {f : FV} {s' : St} (h : D3 s z = some (f, s')) : Gl P B N nt o J s a w f s' := by
 simp only [D3] at h; cases h
 obtain ⟨i, zv, z1, z2, z3, z4, z5, z6⟩ := Dd hz
 have hzs : zv.cells.size = z.length := by rw [← z3]; simp
 refine Fh (t := t) (ds := zv.cells) (lo := 0) (hi := 0) (v := .pointer (some ⟨w.heap.size, 0, none⟩)) R hB (.refl _ _ _ _ _) hd ?_ (by omega) (fun i x y hx hy => ?_) (E9 z5) (fun i _ => by omega) fun J' hJ => ?_
 ·simp only [execOp, hop]
  refine Az ?_
  simp [Instr.alloc, zeroValue, typeInfo, z1, z2, G2]
 ·have : x = y := by
   rw [← Array.getElem?_toList, z3, hx] at hy
   exact Option.some.inj hy
  subst this
  exact .scal (List.all_eq_true.1 z5 x (List.mem_of_getElem? hx))
 ·exact .ptr _ _ _ z _ (by simp) (Nat.le_refl _) fun _ => ⟨_, hJ, rfl⟩
theorem Y7 {t : TypeId} {x1 : Operand} {p : X} {d : Nat} (hop : o.op = .box t x1) (hdst : o.dst = some d) (h1 : cx x1 = some p) (R : B9 B N nt J s a w) (hd : d < nt) {f : FV} {s' : St} (h : F9 s p = some (f, s')) : Gl P B N nt o J s a w f s' := by
 unfold F9 at h
 split at h
 ·rename_i vs hvs
  simp only [Eh] at h; cases h
  obtain ⟨c1, c2⟩ := opc R h1 hvs
  refine ⟨_, .pointer (some ⟨w.heap.size, 0, none⟩), w.alloc (.cells (a.eval x1).cells t), J, ?_, .inl rfl, (Tr.alloc J s.H w _).mono R.hN, ?_⟩
  ·simp only [execOp, hop]
   refine Az ?_
   simp [Instr.box, G2]
  ·rw [hdst]
   exact R.put_bx hd t c1 c2
 ·cases h
theorem aR {t : TypeId} {x1 : Operand} {p : X} (hop : o.op = .box t x1) (h1 : cx x1 = some p) (R : B9 B N nt J s a w) (hB : B ≤ s.H.length) (hd : ∀ d, o.dst = some d → d < nt) {f : FV} {s' : St} (h : Fy s p = some (f, s')) : Gl P B N nt o J s a w f s' := by
 unfold Fy at h
 split at h
 ·rename_i vs hvs
  simp only [D3] at h; cases h
  obtain ⟨c1, c2⟩ := opc R h1 hvs
  have hl := c1.1
  refine Fh (t := t) (ds := (a.eval x1).cells) (lo := 0) (hi := 0) (v := .pointer (some ⟨w.heap.size, 0, none⟩)) R hB (.refl _ _ _ _ _) hd ?_ (by rw [hl, Array.length_toList]; exact Nat.le_refl _) (fun i x y hx hy => c1.2 i x y hx (by simpa using hy)) c2 (fun i _ => by omega) fun J' hJ => ?_
  ·simp only [execOp, hop]
   refine Az ?_
   simp [Instr.box, G2]
  ·exact .ptr _ _ _ vs _ (by simp) (Nat.le_refl _) fun _ => ⟨_, hJ, rfl⟩
 ·cases h
end
section
variable {P : Program} {B N nt : Nat} {o : Oper} {J : Bk} {s : St} {a : Act} {w : World}
theorem Qc (R : B9 B N nt J s a w) {x : Option Operand} {y : Option X} {d n : Int} (hx : cxo x = some y) (h : J7 s.ρ d y = some n) : (x = none ∧ n = d) ∨ ∃ k x', x = some x' ∧ a.eval x' = .int k n := by
 cases x with
 | none =>
  simp only [cxo] at hx; cases hx
  simp only [J7] at h; cases h
  exact .inl ⟨rfl, rfl⟩
 | some x' =>
  simp only [cxo] at hx
  cases hc : cx x' with
  | none => rw [hc] at hx; cases hx
  | some y' =>
   rw [hc] at hx
   have : y = some y' := by simpa using hx.symm
   subst this
   simp only [J7] at h
   split at h
   ·rename_i k m e1
    cases h
    exact .inr ⟨k, x', rfl, (D7 R hc e1).int_inv⟩
   ·cases h
theorem Ki {t e : TypeId} {i : TypeInfo} (ht : P.underlying t = some (.slice e)) (hi : P.info? e = some i) (ad : Option Addr) (len cap : Nat) (lo hi' : Option Value) (l h : Int)
  (hlo : (lo = none ∧ l = 0) ∨ ∃ k, lo = some (.int k l)) (hhi : (hi' = none ∧ h = len) ∨ ∃ k, hi' = some (.int k h)) (h0 : 0 ≤ l) (h1 : l ≤ h) (h2 : h ≤ cap) :
  (Instr.sliceAt t (.slice ad len cap) lo hi' none).run P w = .ok (sliced ad l.toNat h.toNat cap i.size) w := by
 have hF : P.elem t = e := by simp [Program.elem, ht]
 have ht' : P.underlying t = some (.slice (P.elem t)) := by rw [hF]; exact ht
 rw [run_sliceAt_slice w t _ lo hi' none ht']
 have hs : (sizeOf (P.elem t)).run P w = .ok i.size w := by rw [hF]; exact Bg hi
 rcases hlo with ⟨rfl, rfl⟩ | ⟨k, rfl⟩ <;> rcases hhi with ⟨rfl, rfl⟩ | ⟨k', rfl⟩
 ·rw [run_slice_all w t ad len cap ht', hs]; rfl
 ·rw [run_slice_h w t ad len cap ht' k' h (by omega) h2, hs]; rfl
 ·rw [run_slice_l w t ad len cap ht' k l h0 h1, hs]; rfl
 ·rw [run_slice_lh w t ad len cap ht' k k' l h h0 h1 h2, hs]; rfl
theorem Jv {x : Option Operand} {d n : Int} (h : (x = none ∧ n = d) ∨ ∃ k x', x = some x' ∧ a.eval x' = .int k n) : (x.map a.eval = none ∧ n = d) ∨ ∃ k, x.map a.eval = some (.int k n) := by
 rcases h with ⟨rfl, rfl⟩ | ⟨k, x', rfl, h⟩
 ·exact .inl ⟨rfl, rfl⟩
 ·exact .inr ⟨k, by simp [h]⟩
theorem dW {t e : TypeId} {x1 : Operand} {lo hi : Option Operand} {p : X} {q r : Option X} {i : TypeInfo} (hop : o.op = .slice t x1 lo hi none) (ht : P.underlying t = some (.slice e)) (hi' : P.info? e = some i) (hz : i.size ≠ 0)
  (h1 : cx x1 = some p) (h2 : cxo lo = some q) (h3 : cxo hi = some r) (R : B9 B N nt J s a w) (hd : ∀ d, o.dst = some d → d < nt) {f : FV} {s' : St} (h : Ih s i.size p q r = some (f, s')) : Gl P B N nt o J s a w f s' := by
 have hexec : ∀ {v : Value}, (Instr.sliceAt t (a.eval x1) (lo.map a.eval) (hi.map a.eval) none).run P w = .ok v w → (execOp a.eval o).run P w = .ok (.value v) w := fun {v} hv => by
  simp only [execOp, hop]
  exact Az hv
 unfold Ih at h
 split at h
 ·rename_i e1
  have hr := D7 R h1 e1
  generalize hv : a.eval x1 = c at hr
  split at h
  ·rename_i l' h' b1 b2
   split at h
   ·rename_i hc
    obtain ⟨rfl, rfl⟩ := hc
    simp only [St.val] at h; cases h
    cases hr
    refine .of_val R hd (hexec (v := .slice none 0 0) ?_) .nsl
    rw [hv, Ki ht hi' none 0 0 _ _ 0 0 (Jv (Qc R h2 b1)) (by have := Jv (Qc R h3 b2); simpa using this) (by omega) (by omega) (by omega)]
    simp [sliced]
   ·cases h
  ·cases h
 ·rename_i id off ez len cap e1
  have hr := D7 R h1 e1
  generalize hv : a.eval x1 = c at hr
  split at h
  ·rename_i l' h' b1 b2
   split at h
   ·rename_i hc
    obtain ⟨rfl, c1, c2, c3, c4⟩ := hc
    simp only [St.val] at h; cases h
    cases hr with
    | sl _ _ _ _ _ o2 a2 ccap g1 g2 g3 g4 g5 =>
     have hcap : h' ≤ (ccap : Int) := by
      rcases c3 with c3 | c3
      ·omega
      ·have q1 : h' * (i.size : Int) ≤ (ccap : Int) * (i.size : Int) := by
        have : ((cap : Nat) : Int) ≤ ((ccap * i.size : Nat) : Int) := by omega
        rw [Int.natCast_mul] at this
        omega
       exact Int.le_of_mul_le_mul_right q1 (by omega)
     have hsub : cap - l'.toNat * i.size ≤ (ccap - l'.toNat) * i.size := by rw [Nat.sub_mul]; omega
     refine .of_val R hd (hexec (v := sliced (some a2) l'.toNat h'.toNat ccap i.size) ?_) ?_
     ·rw [hv, Ki ht hi' (some a2) len ccap _ _ l' h' (Jv (Qc R h2 b1)) (Jv (Qc R h3 b2)) c1 c2 hcap]
     ·have hs : sliced (some a2) l'.toNat h'.toNat ccap i.size = .slice (some (if ccap = l'.toNat then a2 else a2.add (l'.toNat * i.size))) (h'.toNat - l'.toNat) (ccap - l'.toNat) := by
       unfold sliced
       split <;> rfl
      rw [hs]
      refine .sl id _ _ _ _ o2 _ _ g1 (by omega) (by omega) hsub fun e => ?_
      obtain ⟨l, hl, ha⟩ := g5 (by omega)
      refine ⟨l, hl, ?_⟩
      by_cases hcl : ccap = l'.toNat
      ·left; omega
      ·right
       rcases ha with ⟨ha, hb⟩ | ⟨ha, hb⟩
       ·omega
       ·rw [if_neg hcl, ha, Addr.add_lit]
        refine ⟨by congr 1; omega, ?_⟩
        rw [Nat.sub_mul]
        have : l'.toNat * i.size ≤ ccap * i.size := Nat.mul_le_mul_right _ (by omega)
        omega
   ·cases h
  ·cases h
 ·cases h
theorem M9 {t e : TypeId} {i : TypeInfo} (ht : P.underlying t = some (.slice e)) (hi : P.info? e = some i) (ad : Option Addr) (len cap : Nat) (k1 k2 k3 : IntKind) (l h n : Int) (h0 : 0 ≤ l) (h1 : l ≤ h) (h2 : h ≤ n) (h3 : n ≤ cap) :
  (Instr.sliceAt t (.slice ad len cap) (some (.int k1 l)) (some (.int k2 h)) (some (.int k3 n))).run P w = .ok (sliced ad l.toNat h.toNat n.toNat i.size) w := by
 have hF : P.elem t = e := by simp [Program.elem, ht]
 have ht' : P.underlying t = some (.slice (P.elem t)) := by rw [hF]; exact ht
 rw [run_sliceAt_slice w t _ _ _ _ ht']
 have hs : (sizeOf (P.elem t)).run P w = .ok i.size w := by rw [hF]; exact Bg hi
 rw [run_slice_lhm w t ad len cap ht' k1 k2 k3 l h n h0 h1 h2 h3, hs]
 rfl
theorem aN {t e : TypeId} {x1 lo hi mx : Operand} {p q r u : X} {i : TypeInfo} (hop : o.op = .slice t x1 (some lo) (some hi) (some mx)) (ht : P.underlying t = some (.slice e)) (hi' : P.info? e = some i) (hz : i.size ≠ 0)
  (h1 : cx x1 = some p) (h2 : cx lo = some q) (h3 : cx hi = some r) (h4 : cx mx = some u) (R : B9 B N nt J s a w) (hd : ∀ d, o.dst = some d → d < nt) {f : FV} {s' : St} (h : Tm s i.size p q r u = some (f, s')) : Gl P B N nt o J s a w f s' := by
 have hexec : ∀ {v : Value}, (Instr.sliceAt t (a.eval x1) (some (a.eval lo)) (some (a.eval hi)) (some (a.eval mx))).run P w = .ok v w → (execOp a.eval o).run P w = .ok (.value v) w := fun {v} hv => by
  simp only [execOp, hop]
  exact Az hv
 unfold Tm at h
 split at h
 ·rename_i e1
  have hr := D7 R h1 e1
  generalize hv : a.eval x1 = c at hr
  split at h
  ·rename_i ka l' kb h' kc n' b1 b2 b3
   split at h
   ·rename_i hc
    obtain ⟨rfl, rfl, rfl⟩ := hc
    simp only [St.val] at h; cases h
    cases hr
    refine .of_val R hd (hexec (v := .slice none 0 0) ?_) .nsl
    rw [hv, (D7 R h2 b1).int_inv, (D7 R h3 b2).int_inv, (D7 R h4 b3).int_inv, M9 ht hi' none 0 0 _ _ _ 0 0 0 (by omega) (by omega) (by omega) (by omega)]
    simp [sliced]
   ·cases h
  ·cases h
 ·rename_i id off ez len cap e1
  have hr := D7 R h1 e1
  generalize hv : a.eval x1 = c at hr
  split at h
  ·rename_i ka l' kb h' kc n' b1 b2 b3
   split at h
   ·rename_i hc
    obtain ⟨rfl, c1, c2, c3, c4⟩ := hc
    simp only [St.val] at h; cases h
    cases hr with
    | sl _ _ _ _ _ o2 a2 ccap g1 g2 g3 g4 g5 =>
     have hcap : n'.toNat ≤ ccap := by
      have q1 : n'.toNat * i.size ≤ ccap * i.size := by omega
      exact Nat.le_of_mul_le_mul_right q1 (by omega)
     have hmul : l'.toNat * i.size + (n'.toNat - l'.toNat) * i.size = n'.toNat * i.size := by
      rw [← Nat.add_mul]
      congr 1
      omega
     refine .of_val R hd (hexec (v := sliced (some a2) l'.toNat h'.toNat n'.toNat i.size) ?_) ?_
     ·rw [hv, (D7 R h2 b1).int_inv, (D7 R h3 b2).int_inv, (D7 R h4 b3).int_inv, M9 ht hi' (some a2) len ccap _ _ _ l' h' n' c1 c2 c3 (by omega)]
     ·have hs : sliced (some a2) l'.toNat h'.toNat n'.toNat i.size = .slice (some (if n'.toNat = l'.toNat then a2 else a2.add (l'.toNat * i.size))) (h'.toNat - l'.toNat) (n'.toNat - l'.toNat) := by
       unfold sliced
       split <;> rfl
      rw [hs]
      refine .sl id _ _ _ _ o2 _ _ g1 (by omega) (by omega) (Nat.le_refl _) fun e => ?_
      obtain ⟨l, hl, ha⟩ := g5 (by omega)
      refine ⟨l, hl, ?_⟩
      by_cases hcl : n'.toNat = l'.toNat
      ·left; omega
      ·right
       rcases ha with ⟨ha, hb⟩ | ⟨ha, hb⟩
       ·omega
       ·rw [if_neg hcl, ha, Addr.add_lit]
        refine ⟨by congr 1; omega, ?_⟩
        have : n'.toNat * i.size ≤ ccap * i.size := Nat.mul_le_mul_right _ hcap
        omega
   ·cases h
  ·cases h
 ·cases h
theorem O4 {t : TypeId} (ht : P.underlying t = some .string) (b : ByteArray) (lo hi' : Option Value) (l h : Int)
  (hlo : (lo = none ∧ l = 0) ∨ ∃ k, lo = some (.int k l)) (hhi : (hi' = none ∧ h = b.size) ∨ ∃ k, hi' = some (.int k h)) (h0 : 0 ≤ l) (h1 : l ≤ h) (h2 : h ≤ (b.size : Int)) :
  (Instr.slice t (.string b) lo hi' none).run P w = .ok (.string (b.extract l.toNat h.toNat)) w := by
 have eh : (h.toNat : Int) = h := Int.toNat_of_nonneg (by omega)
 have hh : 0 ≤ h := by omega
 rcases hlo with ⟨rfl, rfl⟩ | ⟨k, rfl⟩ <;> rcases hhi with ⟨rfl, rfl⟩ | ⟨k', rfl⟩ <;> simp [Instr.slice, run_underlying ht, Instr.sliceBounds, run_sliceBound, *]
theorem Zx {t : TypeId} {x1 : Operand} {lo hi : Option Operand} {p : X} {q r : Option X} (hop : o.op = .slice t x1 lo hi none) (ht : P.underlying t = some .string)
  (h1 : cx x1 = some p) (h2 : cxo lo = some q) (h3 : cxo hi = some r) (R : B9 B N nt J s a w) (hd : ∀ d, o.dst = some d → d < nt) {f : FV} {s' : St} (h : C2 s p q r = some (f, s')) : Gl P B N nt o J s a w f s' := by
 unfold C2 at h
 split at h
 ·rename_i b e1
  split at h
  ·rename_i l' h' b1 b2
   split at h
   ·rename_i hc
    obtain ⟨c1, c2, c3⟩ := hc
    simp only [St.val] at h; cases h
    refine .of_val R hd ?_ (.str _)
    simp only [execOp, hop, (D7 R h1 e1).str_inv]
    refine Az ?_
    rw [run_sliceAt_string w t _ _ _ _ ht]
    show (Instr.slice t (.string b) (lo.map a.eval) (hi.map a.eval) none).run P w = _
    rw [O4 ht b _ _ l' h' (Jv (Qc R h2 b1)) (Jv (Qc R h3 b2)) c1 c2 c3]
   ·cases h
  ·cases h
 ·cases h
theorem Qq (off : Nat) : ∀ (l : List Value) (k : Nat) (cells : Array Value), ((l.zipIdx k).foldl (fun cs (p : Value × Nat) => cs.setIfInBounds (off + p.2) p.1) cells).toList = spl cells.toList (off + k) l
 | [], _, _ => rfl
 | v :: l, k, cells => by
  rw [List.zipIdx_cons, List.foldl_cons, Qq off l (k + 1), spl]
  simp
  rfl
theorem Np {place : Nat → Option (Nat × Nat)} : ∀ {ps : List (Nat × Nat × Value)} {qs : List (Nat × Value)} {zs : List Value} {ds : Array Value} {cs : List Value}, A7 J s.H zs ds.toList → (∀ v ∈ zs, v.oneCell' = true) → ps.length = qs.length →
  (∀ (j : Nat) (p : Nat × Nat × Value) (q : Nat × Value), ps[j]? = some p → qs[j]? = some q → place q.1 = some (p.1, p.2.1) ∧ A9 J s.H p.2.2 q.2) → Ba zs ps = some cs →
  ∃ ds', Instr.fill place ds qs = some ds' ∧ A7 J s.H cs ds'.toList ∧ (∀ v ∈ cs, v.oneCell' = true)
 | [], [], zs, ds, cs, hz, h1, _, _, h => by
  simp only [Ba] at h; cases h
  exact ⟨ds, rfl, hz, h1⟩
 | p :: ps, q :: qs, zs, ds, cs, hz, h1, hl, hpq, h => by
  obtain ⟨off, n, v⟩ := p
  obtain ⟨i, c⟩ := q
  obtain ⟨hp, hv⟩ := hpq 0 _ _ rfl rfl
  simp only [Ba] at h
  split at h
  ·rename_i vs hvs
   split at h
   ·rename_i hc
    obtain ⟨r1, r2⟩ := hv.vc hvs
    have hsz : c.cells.size = n := by rw [← Array.length_toList, ← r1.1, hc.1]
    have hds : ds.size = zs.length := by rw [hz.1, Array.length_toList]
    have hfold := Qq off c.cells.toList 0 ds
    have heq : (c.cells.zipIdx.foldl (fun cs (p : Value × Nat) => cs.setIfInBounds (off + p.2) p.1) ds).toList = spl ds.toList off c.cells.toList := by
     rw [← Array.foldl_toList, Array.toList_zipIdx]
     exact hfold
    obtain ⟨ds', f1, f2, f3⟩ := Np (place := place) (ps := ps) (qs := qs) (zs := spl zs off vs) (ds := c.cells.zipIdx.foldl (fun cs (p : Value × Nat) => cs.setIfInBounds (off + p.2) p.1) ds)
     (by rw [heq]; exact A7.spl r1 hz off) (fun x hx => by
      obtain ⟨j, hj⟩ := List.getElem?_of_mem hx
      rw [Ec] at hj
      split at hj
      ·split at hj
       ·exact r2 x (List.mem_of_getElem? hj)
       ·cases hj
      ·exact h1 x (List.mem_of_getElem? hj)) (by simpa using hl) (fun j p q hp hq => hpq (j + 1) p q hp hq) h
    refine ⟨ds', ?_, f2, f3⟩
    simp only [Instr.fill]
    simp only at hp
    rw [hp]
    simp only
    rw [if_neg (by simp; omega)]
    exact f1
   ·cases h
  ·cases h
 | [], _ :: _, _, _, _, _, _, hl, _, _ => by simp at hl
 | _ :: _, [], _, _, _, _, _, hl, _, _ => by simp at hl
theorem Rs (R : B9 B N nt J s a w) : ∀ {ps : List (Nat × Nat × X)} {vs : List (Nat × Nat × Value)}, Fb s.ρ ps = some vs → ps.length = vs.length ∧
  ∀ (j : Nat) (v : Nat × Nat × Value), vs[j]? = some v → ∃ p, ps[j]? = some p ∧ p.1 = v.1 ∧ p.2.1 = v.2.1 ∧ Av s.ρ p.2.2 = some v.2.2
 | [], vs, h => by
  simp only [Fb] at h; cases h
  exact ⟨rfl, fun j v hv => by simp at hv⟩
 | (o1, n1, x) :: ps, vs, h => by
  simp only [Fb] at h
  split at h
  ·rename_i v vs' e1 e2
   cases h
   obtain ⟨i1, i2⟩ := Rs R e2
   refine ⟨by simp [i1], fun j v hv => ?_⟩
   cases j with
   | zero => simp at hv; subst hv; exact ⟨_, rfl, rfl, rfl, e1⟩
   | succ j => exact i2 j v (by simpa using hv)
  ·cases h
theorem Qr (n : Nat) (z : List Value) : (madeCells z.toArray (n * z.length)).toList = Bn n z := by
 apply List.ext_getElem?
 intro j
 unfold madeCells Bn
 rcases Nat.eq_zero_or_pos z.length with h0 | h0
 ·have : z = [] := List.eq_nil_of_length_eq_zero h0
  subst this
  simp
 ·by_cases hj : j < n * z.length
  ·have hm : j % z.length < z.length := Nat.mod_lt _ h0
   have hd : j / z.length < n := Nat.div_lt_of_lt_mul (by rw [Nat.mul_comm]; exact hj)
   have hlen : ((List.replicate n z).flatten).length = n * z.length := by simp
   have hright : ((List.replicate n z).flatten)[j]? = some z[j % z.length] := by
    clear hlen
    induction n generalizing j with
    | zero => omega
    | succ n ih =>
     rw [List.replicate_succ, List.flatten_cons]
     by_cases hjz : j < z.length
     ·rw [List.getElem?_append_left hjz]
      simp only [Nat.mod_eq_of_lt hjz]
      exact B7 hjz
     ·rw [List.getElem?_append_right (by omega)]
      have hj' : j - z.length < n * z.length := by rw [Nat.succ_mul] at hj; omega
      have hm' : (j - z.length) % z.length = j % z.length := (Nat.mod_eq_sub_mod (by omega)).symm
      rw [ih _ hj' (Nat.mod_lt _ h0) (Nat.div_lt_of_lt_mul (by rw [Nat.mul_comm]; exact hj'))]
      simp only [hm']
   rw [hright]
   simp [hj, hm]
  ·have : ((List.replicate n z).flatten).length ≤ j := by simp; omega
   rw [List.getElem?_eq_none this]
   simp [hj]
theorem D1 (n : Nat) (z : List Value) : (Bn n z).length = n * z.length := by simp [Bn]
theorem Dc {n : Nat} {z : List Value} (h : z.all scal = true) : (Bn n z).all scal = true := by
 rw [List.all_eq_true] at h ⊢
 intro x hx
 unfold Bn at hx
 obtain ⟨l, h1, h2⟩ := List.mem_flatten.1 hx
 rw [List.eq_of_mem_replicate h1] at h2
 exact h x h2
theorem Rm {n : Nat} {z : List Value} {zv : Value} {k : Nat} (h3 : zv.cells.toList = z) (h4 : z.length = k) : (madeCells zv.cells (n * k)).toList = Bn n z := by
 rw [← Qr, ← h4]
 congr 2
 rw [← h3]
theorem M5 (ob : Obj) : (newObj ob).run P w = .ok w.heap.size (w.alloc ob) := rfl
theorem eM (R : B9 B N nt J s a w) {t e : TypeId} {len : Nat} {ps : Array (Nat × Operand)} {z : List Value} {xs : List (Nat × X)} (ht : P.underlying t = some (.slice e)) (hz : Fv P e = some z)
  (hxs : ps.toList.mapM (fun p => do pure (p.1, ← cx p.2)) = some xs) (hbig : len * z.length ≤ 16777216) {cs : List Value} (hcs : B8 s len z.length z xs = some cs) :
  ∃ ds, (Instr.buildSlice t len (ps.map fun (i, x) => (i, a.eval x))).run P w = .ok (.slice (some ⟨w.heap.size, 0, none⟩) len len) (w.alloc (.cells ds e)) ∧ A7 J s.H cs ds.toList ∧ (∀ v ∈ cs, v.oneCell' = true) := by
 obtain ⟨i, zv, z1, z2, z3, z4, z5, z6⟩ := Dd hz
 unfold B8 at hcs
 split at hcs
 ·rename_i vs hvs
  obtain ⟨l1, l2⟩ := Rs R hvs
  have hmap : ∀ {l : List (Nat × Operand)} {ys : List (Nat × X)}, l.mapM (fun p => do pure (p.1, ← cx p.2)) = some ys → l.length = ys.length ∧ ∀ (j : Nat) (y : Nat × X), ys[j]? = some y → ∃ p, l[j]? = some p ∧ p.1 = y.1 ∧ cx p.2 = some y.2 := by
   intro l
   induction l with
   | nil => intro ys h; simp at h; subst h; exact ⟨rfl, fun j y hy => by simp at hy⟩
   | cons p l ih =>
    intro ys h
    rw [List.mapM_cons] at h
    simp only [Option.bind_eq_bind, Option.bind_eq_some_iff, Option.pure_def] at h
    obtain ⟨y, ⟨y2, hy2, hy⟩, ys', hys, he⟩ := h
    cases he
    cases hy
    obtain ⟨k1, k2⟩ := ih hys
    refine ⟨by simp [k1], fun j y hj => ?_⟩
    cases j with
    | zero => simp at hj; subst hj; exact ⟨p, rfl, rfl, hy2⟩
    | succ j => exact k2 j y (by simpa using hj)
  obtain ⟨m1, m2⟩ := hmap hxs
  have hzz : A7 J s.H (Bn len z) (madeCells zv.cells (len * i.size)).toList := by
   rw [Rm z3 z4]
   exact A7.scal (Dc z5)
  obtain ⟨ds', f1, f2, f3⟩ := Np (place := fun j => some (j * i.size, i.size)) (qs := (ps.map fun (i, x) => (i, a.eval x)).toList) hzz (E9 (Dc z5)) (by simp at l1 m1 ⊢; omega) (fun j p q hp hq => by
   obtain ⟨p', hp1, hp2, hp3, hp4⟩ := l2 j p hp
   rw [List.getElem?_map] at hp1
   cases hy : xs[j]? with
   | none => simp [hy] at hp1
   | some y =>
    simp [hy] at hp1
    subst hp1
    obtain ⟨p0, g1, g2, g3⟩ := m2 j y hy
    have hg : ps[j]? = some p0 := by simpa using g1
    simp [hg] at hq
    subst hq
    simp only at hp2 hp3 hp4 ⊢
    exact ⟨by rw [← hp2, ← hp3, ← g2, z4], D7 R g3 hp4⟩) hcs
  refine ⟨ds', ?_, f2, f3⟩
  have hn : ¬ (len * i.size > 2 ^ 24) := by rw [← z4]; omega
  simp only [Instr.buildSlice, Sem.run_bind, run_underlying ht, Result.andThen_ok, Bg z1, Sem.run_ite, hn, if_false, Sem.run_pure]
  by_cases h0 : len * i.size = 0
  ·have hmade : (Array.range (len * i.size)).map (fun x => (#[] : Array Value)[x % (#[] : Array Value).size]!) = madeCells zv.cells (len * i.size) := by
    unfold madeCells
    rw [h0]
    simp
   rw [if_pos h0, hmade]
   simp only [f1, newRow, Sem.run_bind, Sem.run_pure, M5, Result.andThen_ok]
  ·rw [if_neg h0]
   have hmade : (Array.range (len * i.size)).map (fun x => zv.cells[x % zv.cells.size]!) = madeCells zv.cells (len * i.size) := rfl
   simp only [zeroValue, typeInfo, Sem.run_bind, run_program, Result.andThen_ok, z1, z2, Sem.run_pure, hmade, f1, newRow, M5]
 ·cases hcs
end
section
variable {P : Program} {B N nt : Nat} {o : Oper} {J : Bk} {s : St} {a : Act} {w : World}
theorem L4 : ∀ {ps : List (Nat × Nat × Value)} {zs cs : List Value}, Ba zs ps = some cs → cs.length = zs.length
 | [], zs, cs, h => by simp only [Ba] at h; cases h; rfl
 | (off, n, v) :: ps, zs, cs, h => by
  simp only [Ba] at h
  split at h
  ·split at h
   ·rw [L4 h, Cq]
   ·cases h
  ·cases h
theorem Od {len esz : Nat} {z : List Value} {ps : List (Nat × X)} {cs : List Value} (h : B8 s len esz z ps = some cs) : cs.length = len * z.length := by
 unfold B8 at h
 split at h
 ·rw [L4 h, D1]
 ·cases h
theorem eD {t e : TypeId} {len : Nat} {ps : Array (Nat × Operand)} {z : List Value} {xs : List (Nat × X)} {d : Nat} (hop : o.op = .buildSlice t len ps) (hdst : o.dst = some d) (ht : P.underlying t = some (.slice e)) (hz : Fv P e = some z)
  (hxs : ps.toList.mapM (fun p => do pure (p.1, ← cx p.2)) = some xs) (hbig : len * z.length ≤ 16777216) (R : B9 B N nt J s a w) (hd : d < nt) {f : FV} {s' : St} (h : J5 s len z.length z xs = some (f, s')) : Gl P B N nt o J s a w f s' := by
 unfold J5 at h
 split at h
 ·rename_i cs hcs
  cases h
  obtain ⟨ds, m1, m2, m3⟩ := eM (P := P) R ht hz hxs hbig hcs
  refine ⟨_, .slice (some ⟨w.heap.size, 0, none⟩) len len, _, J, ?_, .inl rfl, (Tr.alloc J s.H w (.cells ds e)).mono R.hN, ?_⟩
  ·simp only [execOp, hop]
   exact Az m1
  ·rw [hdst]
   exact R.put_vs hd e m2 m3
 ·cases h
theorem bV {t e : TypeId} {len : Nat} {ps : Array (Nat × Operand)} {z : List Value} {xs : List (Nat × X)} (hop : o.op = .buildSlice t len ps) (ht : P.underlying t = some (.slice e)) (hz : Fv P e = some z)
  (hxs : ps.toList.mapM (fun p => do pure (p.1, ← cx p.2)) = some xs) (hbig : len * z.length ≤ 16777216) (R : B9 B N nt J s a w) (hB : B ≤ s.H.length) (hd : ∀ d, o.dst = some d → d < nt) {f : FV} {s' : St} (h : I2 s len z.length z xs = some (f, s')) :
  Gl P B N nt o J s a w f s' := by
 unfold I2 at h
 split at h
 ·rename_i cs hcs
  cases h
  obtain ⟨ds, m1, m2, m3⟩ := eM (P := P) R ht hz hxs hbig hcs
  have hl : cs.length = ds.size := by rw [m2.1, Array.length_toList]
  have hcl := Od hcs
  refine Fh (t := e) (ds := ds) (lo := 0) (hi := 0) (v := .slice (some ⟨w.heap.size, 0, none⟩) len len) R hB (.refl _ _ _ _ _) hd ?_ (by omega) (fun i x y hx hy => m2.2 i x y hx (by simpa using hy)) m3 (fun i _ => by omega) fun J' hJ => ?_
  ·simp only [execOp, hop]
   exact Az m1
  ·exact .sl _ 0 z.length len _ cs _ len (by simp) (by omega) (Nat.le_refl _) (Nat.le_refl _) fun _ => ⟨_, hJ, .inr ⟨rfl, by simp only; omega⟩⟩
 ·cases h
theorem Qo {fs : Array Field} : ∀ {ps : List (Nat × Operand)} {xs : List (Nat × Nat × X)}, N1 P fs ps = some xs → ps.length = xs.length ∧
  ∀ (j : Nat) (y : Nat × Nat × X), xs[j]? = some y → ∃ p f i, ps[j]? = some p ∧ fs[p.1]? = some f ∧ P.info? f.type = some i ∧ y.1 = f.offset ∧ y.2.1 = i.size ∧ cx p.2 = some y.2.2
 | [], xs, h => by simp only [N1] at h; cases h; exact ⟨rfl, fun j y hy => by simp at hy⟩
 | p :: ps, xs, h => by
  simp only [N1] at h
  split at h
  ·rename_i f x r h1 h2 h3
   split at h
   ·rename_i i h4
    cases h
    obtain ⟨k1, k2⟩ := Qo h3
    refine ⟨by simp [k1], fun j y hy => ?_⟩
    cases j with
    | zero => simp at hy; subst hy; exact ⟨p, f, i, rfl, h1, h4, rfl, rfl, h2⟩
    | succ j => exact k2 j y (by simpa using hy)
   ·cases h
  ·cases h
theorem Qe {n : Nat} : ∀ {ps : List (Nat × Operand)} {xs : List (Nat × Nat × X)}, N5 n ps = some xs → ps.length = xs.length ∧
  ∀ (j : Nat) (y : Nat × Nat × X), xs[j]? = some y → ∃ p, ps[j]? = some p ∧ y.1 = p.1 * n ∧ y.2.1 = n ∧ cx p.2 = some y.2.2
 | [], xs, h => by simp only [N5] at h; cases h; exact ⟨rfl, fun j y hy => by simp at hy⟩
 | p :: ps, xs, h => by
  simp only [N5] at h
  split at h
  ·rename_i x r h2 h3
   cases h
   obtain ⟨k1, k2⟩ := Qe h3
   refine ⟨by simp [k1], fun j y hy => ?_⟩
   cases j with
   | zero => simp at hy; subst hy; exact ⟨p, rfl, rfl, rfl, h2⟩
   | succ j => exact k2 j y (by simpa using hy)
  ·cases h
theorem On : ∀ {fs : List Field}, fs.all (fun f => (P.info? f.type).isSome) = true →
  (fs.mapM (fun f => do pure (f.offset, ← sizeOf f.type) : Field → Sem (Nat × Nat))).run P w = .ok (fs.map fun f => (f.offset, ((P.info? f.type).map (·.size)).getD 0)) w
 | [], _ => by simp
 | f :: fs, h => by
  simp only [List.all_cons, Bool.and_eq_true] at h
  obtain ⟨i, hi⟩ := Option.isSome_iff_exists.1 h.1
  simp only [List.mapM_cons, Sem.run_bind, Bg hi, Result.andThen_ok, Sem.run_pure, On h.2, List.map_cons, hi, Option.map_some, Option.getD_some]
theorem Mn {t : TypeId} {ps : Array (Nat × Operand)} {i : TypeInfo} {cs : Array Value} {xs : List (Nat × Nat × X)} (hop : o.op = .build t ps) (hi : P.info? t = some i) (hz : i.zero = some (.agg cs)) (hsc : cs.toList.all scal = true)
  (hu : (∃ fs, P.underlying t = some (.struct fs) ∧ S6 P fs = true) ∨ ∃ n e, P.underlying t = some (.array n e)) (hxs : Ln P t ps.toList = some xs) (R : B9 B N nt J s a w) (hd : ∀ d, o.dst = some d → d < nt) {f : FV} {s' : St}
  (h : B5 s cs.toList xs = some (f, s')) : Gl P B N nt o J s a w f s' := by
 unfold B5 at h
 split at h
 ·rename_i vs hvs
  split at h
  ·rename_i cs' hcs
   simp only [St.val] at h; cases h
   obtain ⟨l1, l2⟩ := Rs R hvs
   have hq : ∀ {j : Nat} {p0 : Nat × Operand} {q : Nat × Value}, ps.toList[j]? = some p0 → (ps.map fun (i, x) => (i, a.eval x)).toList[j]? = some q → q = (p0.1, a.eval p0.2) := fun {j p0 q} g1 hq => by
    have hg : ps[j]? = some p0 := by simpa using g1
    simp [hg] at hq
    exact hq.symm
   have fin : ∀ {ds' : Array Value}, (Instr.build t (ps.map fun (i, x) => (i, a.eval x))).run P w = .ok (.agg ds') w → A7 J s.H cs' ds'.toList → (∀ v ∈ cs', v.oneCell' = true) → Gl P B N nt o J s a w (.val (.agg cs'.toArray)) s := fun {ds'} f1 f2 f3 => by
    refine .of_val R hd (v := .agg ds') (by simp only [execOp, hop]; exact Az f1) (.agg _ _ (by simpa using f2.1) (fun j x hx => f3 x (List.mem_of_getElem? (by simpa using hx))) fun j x y hx hy => f2.2 j x y (by simpa using hx) (by simpa using hy))
   have hzero : (zeroValue t).run P w = .ok (.agg cs) w := by simp [zeroValue, typeInfo, hi, hz]
   rcases hu with ⟨fs, hu, hfo⟩ | ⟨n, e, hu⟩
   ·simp only [Ln, hu] at hxs
    obtain ⟨m1, m2⟩ := Qo hxs
    have hpl := On (P := P) (w := w) hfo
    obtain ⟨ds', f1, f2, f3⟩ := Np (J := J) (s := s) (place := fun j => (fs.map fun f => (f.offset, ((P.info? f.type).map (·.size)).getD 0))[j]?) (qs := (ps.map fun (i, x) => (i, a.eval x)).toList) (ds := cs) (A7.scal hsc) (E9 hsc)
     (by simp at l1 m1 ⊢; omega) (fun j p q hp hq' => by
      obtain ⟨p', hp1, hp2, hp3, hp4⟩ := l2 j p hp
      obtain ⟨p0, f0, i0, g1, g2, g3, g4, g5, g6⟩ := m2 j p' hp1
      have := hq g1 hq'
      subst this
      refine ⟨?_, D7 R g6 hp4⟩
      simp only [Array.getElem?_map, g2, Option.map_some, g3, Option.getD_some, ← hp2, ← hp3, g4, g5]) hcs
    refine fin (ds' := ds') ?_ f2 f3
    simp only [Instr.build, Sem.run_bind, hzero, Result.andThen_ok, run_underlying hu]
    have hmm : ((fs.mapM fun f => do pure (f.offset, ← sizeOf f.type) : Sem (Array (Nat × Nat)))).run P w = .ok (fs.map fun f => (f.offset, ((P.info? f.type).map (·.size)).getD 0)) w := by
     rw [Array.mapM_eq_mapM_toList, Sem.run_map, hpl]
     simp only [Result.andThen_ok]
     congr 1
     apply Array.toList_inj.1
     simp
    rw [hmm]
    simp only [Result.andThen_ok, Value.cells, f1, Sem.run_pure]
   ·simp only [Ln, hu] at hxs
    split at hxs
    ·rename_i ie hie
     obtain ⟨m1, m2⟩ := Qe hxs
     obtain ⟨ds', f1, f2, f3⟩ := Np (J := J) (s := s) (place := fun j => some (j * ie.size, ie.size)) (qs := (ps.map fun (i, x) => (i, a.eval x)).toList) (ds := cs) (A7.scal hsc) (E9 hsc)
      (by simp at l1 m1 ⊢; omega) (fun j p q hp hq' => by
       obtain ⟨p', hp1, hp2, hp3, hp4⟩ := l2 j p hp
       obtain ⟨p0, g1, g4, g5, g6⟩ := m2 j p' hp1
       have := hq g1 hq'
       subst this
       exact ⟨by simp only [← hp2, ← hp3, g4, g5], D7 R g6 hp4⟩) hcs
     refine fin (ds' := ds') ?_ f2 f3
     simp only [Instr.build, Sem.run_bind, hzero, Result.andThen_ok, run_underlying hu, Bg hie, Value.cells, f1, Sem.run_pure]
    ·cases hxs
  ·cases h
 ·cases h
theorem Xs {t e : TypeId} {x1 x2 : Operand} {p q : X} {z : List Value} {i : TypeInfo} (hop : o.op = .makeSlice t x1 x2) (ht : P.underlying t = some (.slice e)) (hz : Fv P e = some z) (hi : P.info? e = some i) (h1 : cx x1 = some p) (h2 : cx x2 = some q)
  (R : B9 B N nt J s a w) (hB : B ≤ s.H.length) (hd : ∀ d, o.dst = some d → d < nt) {f : FV} {s' : St} (h : Ms s z.length i.bytes z p q = some (f, s')) : Gl P B N nt o J s a w f s' := by
 obtain ⟨i', zv, z1, z2, z3, z4, z5, z6⟩ := Dd hz
 rw [hi] at z1; cases z1
 unfold Ms at h
 split at h
 ·rename_i k1 l k2 c e1 e2
  split at h
  ·rename_i hc
   obtain ⟨c1, c2, c3, c4⟩ := hc
   cases h
   have hm := Rm (n := c.toNat) z3 z4
   have hml : (madeCells zv.cells (c.toNat * i.size)).size = c.toNat * z.length := by rw [size_madeCells, z4]
   refine Fh (t := e) (ds := madeCells zv.cells (c.toNat * i.size)) (lo := 0) (hi := 0) (v := .slice (some ⟨w.heap.size, 0, none⟩) l.toNat c.toNat) R hB (.refl _ _ _ _ _) hd ?_ (by rw [D1, hml]; exact Nat.le_refl _) (fun j x y hx hy => ?_) (E9 (Dc z5)) (fun i _ => by omega) fun J' hJ => ?_
   ·simp only [execOp, hop, (D7 R h1 e1).int_inv, (D7 R h2 e2).int_inv]
    refine Az ?_
    exact run_make w t e i zv ht hi z2 k1 k2 l c c1 c2 (by rw [Int.mul_comm]; omega) (by omega)
   ·have : x = y := by
     rw [← Array.getElem?_toList, hm, hx] at hy
     exact Option.some.inj hy
    subst this
    exact .scal (List.all_eq_true.1 (Dc z5) x (List.mem_of_getElem? hx))
   ·exact .sl _ 0 z.length _ _ (Bn c.toNat z) _ c.toNat (by simp) (by rw [D1]; omega) (by omega) (Nat.le_refl _) fun _ => ⟨_, hJ, .inr ⟨rfl, by simp only [hml]; omega⟩⟩
  ·cases h
 ·cases h
theorem W4 {t e : TypeId} {x1 x2 : Operand} {p q : X} {z : List Value} {i : TypeInfo} {d : Nat} (hop : o.op = .makeSlice t x1 x2) (hdst : o.dst = some d) (ht : P.underlying t = some (.slice e)) (hz : Fv P e = some z) (hi : P.info? e = some i) (h1 : cx x1 = some p) (h2 : cx x2 = some q)
  (R : B9 B N nt J s a w) (hd : d < nt) {f : FV} {s' : St} (h : Mw s i.bytes z p q = some (f, s')) : Gl P B N nt o J s a w f s' := by
 obtain ⟨i', zv, z1, z2, z3, z4, z5, z6⟩ := Dd hz
 rw [hi] at z1; cases z1
 unfold Mw at h
 split at h
 ·rename_i k1 l k2 c e1 e2
  split at h
  ·rename_i hc
   obtain ⟨c1, c2, c3, c4⟩ := hc
   subst c2
   cases h
   have hm := Rm (n := l.toNat) z3 z4
   refine ⟨_, .slice (some ⟨w.heap.size, 0, none⟩) l.toNat l.toNat, _, J, ?_, .inl rfl, (Tr.alloc J s.H w (.cells (madeCells zv.cells (l.toNat * i.size)) e)).mono R.hN, ?_⟩
   ·simp only [execOp, hop, (D7 R h1 e1).int_inv, (D7 R h2 e2).int_inv]
    refine Az ?_
    exact run_make w t e i zv ht hi z2 k1 k2 l l c1 (Int.le_refl _) (by rw [Int.mul_comm]; omega) (by omega)
   ·rw [hdst]
    refine R.put_vs hd e ⟨by rw [hm], fun j x y hx hy => ?_⟩ (E9 (Dc z5))
    have : x = y := by
     rw [hm, hx] at hy
     exact Option.some.inj hy
    subst this
    exact .scal (List.all_eq_true.1 (Dc z5) x (List.mem_of_getElem? hx))
  ·cases h
 ·cases h
theorem cO {sr ds e : TypeId} {x1 : Operand} {p : X} {esz : Nat} (hop : o.op = .convert sr ds x1) (hs : P.underlying sr = some .string) (hk : P.underlying ds = some (.slice e)) (he : P.underlying e = some (.int .u8)) (h1 : cx x1 = some p)
  (R : B9 B N nt J s a w) (hB : B ≤ s.H.length) (hd : ∀ d, o.dst = some d → d < nt) {f : FV} {s' : St} (h : Xu s p = some (f, s')) (_ : esz = 1) : Gl P B N nt o J s a w f s' := by
 unfold Xu at h
 split at h
 ·rename_i b e1
  cases h
  have hcap : b.size ≤ grownCap w b.size 0 e := by
   simp only [grownCap, Question.cut]
   exact Nat.le_add_right _ _
  have hsz : (bytesRow b (grownCap w b.size 0 e)).size = grownCap w b.size 0 e := by
   simp only [bytesRow, Array.size_append, Array.size_map, Array.size_replicate]
   have : b.data.size = b.size := rfl
   omega
  have hlen : (b.data.toList.map fun c => Value.int .u8 c.toNat).length = b.size := by simp
  have hone : ∀ v ∈ (b.data.toList.map fun c => Value.int .u8 c.toNat), v.oneCell' = true := fun v hv => by
   obtain ⟨c, _, rfl⟩ := List.mem_map.1 hv
   rfl
  refine Fh (t := e) (w0 := w.drew) (ds := bytesRow b (grownCap w b.size 0 e)) (lo := (bytesRow b (grownCap w b.size 0 e)).size) (hi := (bytesRow b (grownCap w b.size 0 e)).size + 1) (v := .slice (some ⟨w.heap.size, 0, none⟩) b.size (grownCap w b.size 0 e))
   R.drew hB ((Tr.drew J s.H w).mono R.hN) hd ?_ (by rw [hlen, hsz]; exact hcap) (fun j x y hx hy => ?_) hone (fun i hi => by omega) fun J' hJ => ?_
  ·simp only [execOp, hop, (D7 R h1 e1).str_inv]
   exact Az (run_bytes_of_string w sr ds e b hs hk he)
  ·have hj := (Em hx).1
   rw [hlen] at hj
   have : x = y := by
    unfold bytesRow at hy
    rw [Array.getElem?_append_left (by rw [Array.size_map]; exact hj)] at hy
    rw [← Array.getElem?_toList, Array.toList_map, hx] at hy
    exact Option.some.inj hy
   subst this
   obtain ⟨c, _, rfl⟩ := List.mem_map.1 (List.mem_of_getElem? hx)
   exact .int _ _
  ·exact .sl _ 0 1 _ _ (b.data.toList.map fun c => Value.int .u8 c.toNat) _ (grownCap w b.size 0 e) (by simp) (by have := hlen; omega) hcap (by omega) fun _ => ⟨_, hJ, .inr ⟨rfl, by simp only [hsz]; omega⟩⟩
 ·cases h
theorem U7 {H : Hp} {v : Value} {id off e len : Nat} {os : List Value} (h : Nc H v = some (id, off, e, len, os)) : ∃ cap, v = .slice (some ⟨id, off, some e⟩) len cap ∧ H[id]? = some os ∧ off + cap = os.length := by
 unfold Nc at h
 split at h
 ·split at h
  ·split at h
   ·cases h; exact ⟨_, rfl, by assumption, by assumption⟩
   ·cases h
  ·cases h
 ·cases h
theorem Ru (R : B9 B N nt J s a w) {x : Operand} {y : X} {esz n : Nat} {cs : List Value} (hx : cx x = some y) (h : F8 s.H esz (ex s.ρ y) = some (n, cs)) :
  ∃ base ccap, a.eval x = .slice base n ccap ∧ cs.length = n * esz ∧ ((n = 0 ∧ cs = []) ∨ ∃ p ds, base = some p ∧ A7 J s.H cs ds ∧ (∀ v ∈ cs, v.oneCell' = true) ∧ ∀ j v, ds[j]? = some v → w.cell? (p.add j) = some v) := by
 unfold F8 at h
 split at h
 ·rename_i hy
  cases h
  have hr := D7 R hx (v := .slice none 0 0) (by simp [Av, hy])
  generalize a.eval x = c at hr
  cases hr
  exact ⟨_, _, rfl, by simp, .inl ⟨rfl, rfl⟩⟩
 ·rename_i v hnn hy
  split at h
  ·rename_i id off e len os hrow
   split at h
   ·rename_i hc
    obtain ⟨rfl, hle⟩ := hc
    cases h
    have hr := D7 R hx (v := v) (by simp [Av, hy])
    obtain ⟨cap, rfl, g0, hv⟩ := U7 hrow
    generalize a.eval x = c at hr
    cases hr with
    | sl _ _ _ _ _ o2 a2 ccap g1 g2 g3 g4 g5 =>
     rw [g0] at g1; cases g1
     refine ⟨_, _, rfl, by simp; omega, ?_⟩
     obtain ⟨l, hl, ha⟩ := g5 hv
     rcases ha with ⟨ha, _⟩ | ⟨ha, hb⟩
     ·left
      refine ⟨ha, ?_⟩
      rw [ha]
      simp
     ·right
      obtain ⟨l', ds, e', lo, hi', b1, b2, b3, b4, b5, b6⟩ := R.wr.row _ _ g0
      rw [hl] at b1; cases b1
      refine ⟨a2, (ds.toList.drop (l.sh + off)).take (n * e), rfl, ⟨?_, fun j x y hx hy => ?_⟩, fun v hv => ?_, fun j v hj => ?_⟩
      ·simp
       omega
      ·rw [List.getElem?_take] at hx hy
       split at hx
       ·rename_i hj
        rw [if_pos hj, List.getElem?_drop] at hy
        rw [List.getElem?_drop] at hx
        obtain ⟨_, dd, hdd, hrr⟩ := b5 _ x hx
        have : dd = y := by
         rw [Array.getElem?_toList, show l.sh + off + j = l.sh + (off + j) by omega, hdd] at hy
         exact Option.some.inj hy
        subst this
        exact hrr
       ·cases hx
      ·have hv' := List.mem_of_mem_drop (List.mem_of_mem_take hv)
       obtain ⟨k, hk⟩ := List.getElem?_of_mem hv'
       exact (b5 k v hk).1
      ·rw [List.getElem?_take] at hj
       split at hj
       ·rw [List.getElem?_drop] at hj
        rw [ha, Addr.add_lit]
        simp only [World.cell?, b2]
        simpa using hj
       ·cases hj
   ·cases h
  ·cases h
 ·rename_i n' cs' hy
  split at h
  ·rename_i hl
   cases h
   cases y with
   | t t =>
    have hxt : x = .tmp t := by cases x <;> simp [cx] at hx <;> simp_all
    subst hxt
    obtain ⟨own, ho⟩ := R.fr
    have hf := ho.ok t
    unfold Pf at hf
    simp only [ex] at hy
    simp only [hy] at hf
    obtain ⟨b, ds, e, f1, f2, f3, f4, f5⟩ := hf
    refine ⟨_, _, f2, hl, .inr ⟨_, ds.toList, rfl, f4, f5, fun j v hj => ?_⟩⟩
    rw [Addr.add_lit]
    simp only [World.cell?, f3]
    simpa using hj
   | c v => simp [ex] at hy
   | f g => simp [ex] at hy
  ·cases h
 ·cases h
theorem Gk {size n ccap : Nat} {base : Option Addr} {ds : List Value} (h : (n = 0 ∧ ds = []) ∨ ∃ p, base = some p ∧ ds.length = n * size ∧ ∀ j v, ds[j]? = some v → w.cell? (p.add j) = some v) :
  (Builtin.firstCells size n (.slice base n ccap)).run P w = .ok ds.toArray w := by
 rcases h with ⟨rfl, rfl⟩ | ⟨p, rfl, hl, hc⟩
 ·cases base with
  | none => exact run_firstCells_none w size 0 0 ccap
  | some p => exact run_firstCells_some w size 0 p 0 ccap [] (by simp) (by simp)
 ·exact run_firstCells_some w size n p n ccap ds hl hc
theorem L8 : ∀ {cs : List Value} {bs : List UInt8}, Hj cs = some bs → ∃ ns : List Int, cs = ns.map (Value.int .u8) ∧ bs = ns.map fun n => UInt8.ofNat n.toNat
 | [], bs, h => by simp only [Hj] at h; cases h; exact ⟨[], rfl, rfl⟩
 | c :: cs, bs, h => by
  simp only [Hj] at h
  split at h
  ·rename_i b bs' hb hbs
   cases h
   obtain ⟨ns, h1, h2⟩ := L8 hbs
   unfold Vg at hb
   split at hb
   ·rename_i n
    cases hb
    exact ⟨n :: ns, by simp [h1], by simp [h2]⟩
   ·cases hb
  ·cases h
theorem I6 : ∀ (ns : List Int) (r : ByteArray), ns.foldl (fun r n => r.push (UInt8.ofNat n.toNat)) r = ⟨r.data ++ (ns.map fun n => UInt8.ofNat n.toNat).toArray⟩
 | [], r => by simp
 | n :: ns, r => by
  simp only [List.foldl_cons]
  rw [I6 ns]
  simp [ByteArray.push]
theorem eC {sr ds e : TypeId} {x1 : Operand} {p : X} (hop : o.op = .convert sr ds x1) (hs : P.underlying sr = some (.slice e)) (hk : P.underlying ds = some .string) (he : P.underlying e = some (.int .u8)) (h1 : cx x1 = some p)
  (R : B9 B N nt J s a w) (hd : ∀ d, o.dst = some d → d < nt) {f : FV} {s' : St} (h : Vd s p = some (f, s')) : Gl P B N nt o J s a w f s' := by
 unfold Vd at h
 split at h
 ·rename_i n cs hsrc
  split at h
  ·rename_i bs hbs
   simp only [St.val] at h; cases h
   obtain ⟨base, ccap, hv, hl, hc⟩ := Ru R h1 hsrc
   refine .of_val R hd (v := .string ⟨bs.toArray⟩) ?_ (.str _)
   simp only [execOp, hop, hv]
   refine Az ?_
   rw [run_convert_bytes_string w sr ds e base n ccap hs he hk]
   obtain ⟨ns, rfl, rfl⟩ := L8 hbs
   have hload : ∀ p, base = some p → (loadCells p n).run P w = .ok (ns.map (Value.int .u8)).toArray w := fun p hp => by
    rcases hc with ⟨rfl, hc⟩ | ⟨p', ds', hp', h2, _, h4⟩
    ·rw [hc]
     simpa using run_loadCells_list (P := P) w p [] (by simp)
    ·rw [hp'] at hp; cases hp
     have hds : ds' = ns.map (Value.int .u8) := by
      apply List.ext_getElem?
      intro j
      cases hj : (ns.map (Value.int .u8))[j]? with
      | none =>
       have := h2.1
       rw [List.getElem?_eq_none_iff] at hj ⊢
       omega
      | some v =>
       obtain ⟨y, hy, hr⟩ := h2.get hj
       obtain ⟨m, _, rfl⟩ := List.mem_map.1 (List.mem_of_getElem? hj)
       cases hr
       exact hy
     have := run_loadCells_list (P := P) w p ds' h4
     rw [hds] at this
     have hn : (ns.map (Value.int .u8)).length = n := by omega
     rw [hn] at this
     exact this
   cases base with
   | none =>
    have : n = 0 := by
     rcases hc with ⟨h0, _⟩ | ⟨p', _, hp', _⟩
     ·exact h0
     ·cases hp'
    have : ns = [] := by
     have := hl
     simp at this
     apply List.eq_nil_of_length_eq_zero
     omega
    subst this
    simp [Conv.bytesToString]
    rfl
   | some q =>
    rw [run_bytesToString w q n ccap ns (hload q rfl), I6]
    simp
  ·cases h
 ·cases h
end
section
variable {P : Program} {B N nt : Nat} {o : Oper} {J : Bk} {s : St} {a : Act} {w : World}
theorem Ly {t t2 e e2 ty : TypeId} {i : TypeInfo} (ht : P.underlying t = some (.slice e)) (ht2 : P.underlying t2 = some (.slice e2)) (hi : P.info? e = some i) {base sb : Option Addr} {sLen sCap n c : Nat} {news : List Value} {w' : World}
  (hroom : sLen + n ≤ sCap) (hf : (Builtin.firstCells i.size n (.slice sb n c)).run P w = .ok news.toArray w)
  (hs : (∃ p, base = some p ∧ (storeCells (p.add (sLen * i.size)) news).run P w = .ok () w') ∨ base = none ∧ w' = w) :
  (Builtin.append_ #[t, t2] ty #[.slice base sLen sCap, .slice sb n c]).run P w = .ok (.slice base (sLen + n) sCap) w' := by
 rcases hs with ⟨p, rfl, hs⟩ | ⟨rfl, rfl⟩
 ·simp [Builtin.append_, run_underlying ht, run_underlying ht2, sizeOf, typeInfo, hi, Builtin.lenOf, hroom, hf, hs]
 ·simp [Builtin.append_, run_underlying ht, run_underlying ht2, sizeOf, typeInfo, hi, Builtin.lenOf, hroom, hf]
theorem Lu {t t2 e e2 ty : TypeId} {i : TypeInfo} {z : Value} (ht : P.underlying t = some (.slice e)) (ht2 : P.underlying t2 = some (.slice e2)) (hi : P.info? e = some i) (hz : i.zero = some z) {base sb : Option Addr} {sLen sCap n c : Nat} {olds news : List Value}
  (hroom : sCap < sLen + n) (ho : (Builtin.firstCells i.size sLen (.slice base sLen sCap)).run P w.drew = .ok olds.toArray w.drew) (hf : (Builtin.firstCells i.size n (.slice sb n c)).run P w.drew = .ok news.toArray w.drew)
  (hb : i.bytes ≠ 0) (h1 : (sLen + n) * i.bytes ≤ 140737488355328) (h2 : sLen + n ≤ 140737488355328) :
  (Builtin.append_ #[t, t2] ty #[.slice base sLen sCap, .slice sb n c]).run P w =
   .ok (.slice (some ⟨w.heap.size, 0, none⟩) (sLen + n) (grownCap w (sLen + n) sCap e)) (w.drew.alloc (.cells (olds ++ news ++ (Builtin.zeroCells z.cells (grownCap w (sLen + n) sCap e - (sLen + n))).toList).toArray e)) := by
 have hn : ¬ (sLen + n ≤ sCap) := by omega
 have h63 : ¬ ((9223372036854775807 : Int) < (sLen : Int) + (n : Int)) := by omega
 have h48 : ¬ (281474976710656 < Builtin.nextslicecap (sLen + n) sCap * i.bytes) := by have := growslice_fits hroom h1; omega
 simp [Builtin.append_, run_underlying ht, run_underlying ht2, sizeOf, typeInfo, zeroValue, hi, hz, Builtin.lenOf, hn, h63, h48, hb, Question.forced, hf, ho, newRow, grownCap]
 congr 2
 apply Array.ext'
 simp
theorem Na (w : World) (need old : Nat) (e : TypeId) : need ≤ grownCap w need old e := by
 simp only [grownCap, Question.cut]
 exact Nat.le_add_right _ _
theorem Jh (z : Array Value) (n : Nat) : (Builtin.zeroCells z n).size = n * z.size := by simp [Builtin.zeroCells]
theorem Q5 {m : Md} (hm : ∀ id, m.wr id = true → B ≤ id) {c : Call} {x1 x2 : Operand} {p q : X} {t t2 e e2 : TypeId} {i : TypeInfo} {z : List Value} (hop : o.op = .call c) (hb : c.callee = .builtin .append) (ha : c.args.toList = [x1, x2])
  (hat : c.argTypes[0]? = some t) (hat2 : c.argTypes[1]? = some t2) (ht : P.underlying t = some (.slice e)) (ht2 : P.underlying t2 = some (.slice e2)) (hi : P.info? e = some i) (hz : Fv P e = some z) (hby : i.bytes ≠ 0)
  (h1 : cx x1 = some p) (h2 : cx x2 = some q) (R : B9 B N nt J s a w) (hB : B ≤ s.H.length) (hd : ∀ d, o.dst = some d → d < nt) {f : FV} {s' : St} (h : Ce m s i.size i.bytes p q = some (f, s')) : Gl P B N nt o J s a w f s' := by
 have haa : c.args = #[x1, x2] := by apply Array.toList_inj.1; rw [ha]
 obtain ⟨i', zv, z1, z2, z3, z4, z5, z6⟩ := Dd hz
 rw [hi] at z1; cases z1
 have hsz : zv.cells.size = i.size := by rw [← Array.length_toList, z3, z4]
 have hargs : ∀ (ty : TypeId) (v1 v2 : Value), Builtin.append_ c.argTypes ty #[v1, v2] = Builtin.append_ #[t, t2] ty #[v1, v2] := fun ty v1 v2 => by
  simp [Builtin.append_, hat, hat2]
 have hexec : ∀ {v1 v2 v : Value} {w' : World}, a.eval x1 = v1 → a.eval x2 = v2 → (Builtin.append_ #[t, t2] o.type #[v1, v2]).run P w = .ok v w' → (execOp a.eval o).run P w = .ok (.value v) w' := fun {v1 v2 v w'} e1 e2 hr => by
  simp only [execOp, hop, resolve, hb, haa]
  simp only [List.map_toArray, List.map_cons, List.map_nil, e1, e2, Sem.run_bind, Sem.run_pure, Result.andThen_ok, invoke, builtin, hargs, hr]
 unfold Ce at h
 split at h
 ·rename_i v n cs e1 hsrc
  obtain ⟨sb, sc, hv2, hcl, hc⟩ := Ru R h2 hsrc
  have hr := D7 R h1 e1
  have hfirst : ∃ ds, (∀ w0 : World, w0.heap = w.heap → (Builtin.firstCells i.size n (.slice sb n sc)).run P w0 = .ok ds.toArray w0) ∧ A7 J s.H cs ds ∧ (∀ v ∈ cs, v.oneCell' = true) := by
   rcases hc with ⟨rfl, rfl⟩ | ⟨p', ds, rfl, q1, q2, q3⟩
   ·exact ⟨[], fun w0 _ => Gk (.inl ⟨rfl, rfl⟩), .nil, by simp⟩
   ·refine ⟨ds, fun w0 hw0 => Gk (.inr ⟨p', rfl, by rw [← q1.1]; exact hcl, fun j v hj => ?_⟩), q1, q2⟩
    have := q3 j v hj
    simp only [World.cell?] at this ⊢
    rw [hw0]
    exact this
  obtain ⟨ds, hf, hds, hone⟩ := hfirst
  split at h
  ·rename_i hn0
   subst hn0
   have hdl : ds = [] := by
    apply List.eq_nil_of_length_eq_zero
    rw [← hds.1, hcl]
    simp
   subst hdl
   have hsame : ∀ {base : Option Addr} {sl sc' : Nat}, a.eval x1 = .slice base sl sc' → sl ≤ sc' → (execOp a.eval o).run P w = .ok (.value (.slice base sl sc')) w := fun {base sl sc'} he hle => by
    refine hexec he hv2 ?_
    have := Ly (P := P) (w := w) (w' := w) (ty := o.type) ht ht2 hi (base := base) (sLen := sl) (sCap := sc') (by omega) (hf w rfl) (by
     cases base with
     | none => exact .inr ⟨rfl, rfl⟩
     | some p => exact .inl ⟨p, rfl, rfl⟩)
    simpa using this
   split at h
   ·simp only [St.val] at h; cases h
    generalize hv1 : a.eval x1 = cv at hr
    cases hr
    exact .of_val R hd (hsame hv1 (Nat.le_refl _)) .nsl
   ·simp only [St.val] at h; cases h
    generalize hv1 : a.eval x1 = cv at hr
    cases hr with
    | sl _ _ _ _ _ o2 a2 ccap g1 g2 g3 g4 g5 => exact .of_val R hd (hsame hv1 g3) (.sl _ _ _ _ _ o2 a2 ccap g1 g2 g3 g4 g5)
   ·cases h
  ·rename_i hn0
   split at h
   ·split at h
    ·rename_i hle
     cases h
     generalize hv1 : a.eval x1 = cv at hr
     cases hr
     have hroom : room = 140737488355328 := rfl
     have hrun := Lu (P := P) (w := w) (ty := o.type) ht ht2 hi z2 (base := none) (sLen := 0) (sCap := 0) (n := n) (olds := []) (by omega) (Gk (.inl ⟨rfl, rfl⟩)) (hf w.drew rfl) hby (by rw [Nat.zero_add]; omega) (by omega)
     simp only [Nat.zero_add, List.nil_append] at hrun
     have hdl : ds.length = n * i.size := by rw [← hds.1, hcl]
     have hgc := Na w n 0 e
     refine Fh (t := e) (w0 := w.drew) (lo := 0) (hi := 0) R.drew hB ((Tr.drew J s.H w).mono R.hN) hd (hexec hv1 hv2 hrun) ?_ (fun j x y hx hy => ?_) hone (fun i _ => by omega) fun J' hJ => ?_
     ·have := hds.1
      simp
      omega
     ·have hj := (Em hx).1
      rw [List.getElem?_toArray, List.getElem?_append_left (by rw [← hds.1]; exact hj)] at hy
      exact hds.2 j x y hx hy
     ·refine .sl _ 0 i.size n _ cs _ (grownCap w n 0 e) (by simp) (by omega) hgc (Nat.mul_le_mul_right _ hgc) fun _ => ⟨_, hJ, .inr ⟨rfl, ?_⟩⟩
      simp only [List.size_toArray, List.length_append, Array.length_toList, Jh, hsz, hdl]
      rw [← Nat.add_mul]
      have : n + (grownCap w n 0 e - n) = grownCap w n 0 e := by omega
      rw [this]
      omega
    ·cases h
   ·rename_i id off e3 len cap
    split at h
    ·rename_i os g0
     split at h
     ·rename_i hcnd
      obtain ⟨rfl, hval, hwr, hnr⟩ := hcnd
      generalize hv1 : a.eval x1 = cv at hr
      cases hr with
      | sl _ _ _ _ _ o2 a2 ccap g1 g2 g3 g4 g5 =>
       rw [g0] at g1; cases g1
       obtain ⟨l, hl, hal⟩ := g5 hval
       have hdl : ds.length = n * i.size := by rw [← hds.1, hcl]
       have hmul : ∀ {x y : Nat}, x * i.size ≤ y * i.size → x ≤ y := fun {x y} h => Nat.le_of_mul_le_mul_right h z6
       have hadd : (len + n) * i.size = len * i.size + n * i.size := Nat.add_mul _ _ _
       have hinplace : len + n ≤ ccap → ∀ os', (os' = spl os (off + len * i.size) cs ∧ off + len * i.size + cs.length ≤ os.length ∨ os' = os.take (off + len * i.size) ++ cs ∧ os.length < off + len * i.size + cs.length ∧ off + len * i.size ≤ os.length) →
         ∀ cap', off + cap' = os'.length → cap' ≤ ccap * i.size → Gl P B N nt o J s a w (.val (.slice (some ⟨id, off, some i.size⟩) (len + n) cap')) { s with H := s.H.set id os' } := fun hle os' hos' cap' hcap' hcc => by
        rcases hal with ⟨ha1, ha2⟩ | ⟨ha1, ha2⟩
        ·rw [ha1, ha2, Nat.zero_add] at hle
         exact absurd (Nat.le_zero.1 hle) hn0
        ·have hm2 : (len + n) * i.size ≤ ccap * i.size := Nat.mul_le_mul_right _ hle
         have hin : l.sh + (off + len * i.size) + cs.length ≤ l.sz := by omega
         obtain ⟨r1, r2, r3⟩ := Jw (P := P) R.wr (i := off + len * i.size) g0 hl (hm id hwr) hds hone hin hos'
         have hrun := Ly (P := P) (w := w) (ty := o.type) ht ht2 hi (base := some a2) (sLen := len) (sCap := ccap) hle (hf w rfl) (.inl ⟨a2, rfl, by rw [ha1, Addr.add_lit, show l.sh + off + len * i.size = l.sh + (off + len * i.size) by omega]; exact r1⟩)
         have R1 := R.move r2 r3
         refine ⟨_, _, _, J, hexec hv1 hv2 hrun, .inl rfl, r2.mono R.hN, R1.put_val (s := { s with H := s.H.set id os' }) hd ?_⟩
         have hid := (Em g0).1
         exact .sl id off i.size _ cap' os' a2 ccap (by simp [hid]) (by omega) hle hcc fun _ => ⟨l, hl, .inr ⟨ha1, ha2⟩⟩
       split at h
       ·rename_i hfit
        cases h
        have hle : len + n ≤ ccap := hmul (C8 hfit g4)
        exact hinplace hle _ (.inl ⟨rfl, by omega⟩) cap (by rw [Cq]; exact hval) g4
       ·rename_i hfit
        split at h
        ·rename_i hgr
         obtain ⟨rfl, hlo, hb1, hb2⟩ := hgr
         cases h
         have hroom : room = 140737488355328 := rfl
         by_cases hle : len + n ≤ ccap
         ·have := hinplace hle (os.take (len * i.size) ++ cs) (.inr ⟨by simp, by omega, by omega⟩) ((len + n) * i.size) (by simp; omega) (Nat.mul_le_mul_right _ hle)
          exact this
         ·obtain ⟨l', dsr, e', lo', hi', b1, b2, b3, b4, b5, b6⟩ := R.wr.row _ _ g0
          rw [hl] at b1; cases b1
          have holds : ∃ olds : List Value, (Builtin.firstCells i.size len (.slice (some a2) len ccap)).run P w.drew = .ok olds.toArray w.drew ∧ A7 J s.H (os.take (len * i.size)) olds ∧ olds.length = len * i.size := by
           rcases hal with ⟨ha1, ha2⟩ | ⟨ha1, ha2⟩
           ·subst ha1
            exact ⟨[], Gk (.inl ⟨rfl, rfl⟩), by simp; exact .nil, by simp⟩
           ·refine ⟨(dsr.toList.drop l.sh).take (len * i.size), Gk (.inr ⟨a2, rfl, by simp; omega, fun j v hj => ?_⟩), ⟨by simp; omega, fun j x y hx hy => ?_⟩, by simp; omega⟩
            ·rw [List.getElem?_take] at hj
             split at hj
             ·rw [List.getElem?_drop] at hj
              rw [ha1, Addr.add_lit]
              simp only [World.cell?, World.drew, b2]
              simpa using hj
             ·cases hj
            ·rw [List.getElem?_take] at hx hy
             split at hx
             ·rename_i hj
              rw [if_pos hj, List.getElem?_drop] at hy
              obtain ⟨_, dd, hdd, hrr⟩ := b5 _ x hx
              have : dd = y := by
               rw [Array.getElem?_toList, hdd] at hy
               exact Option.some.inj hy
              subst this
              exact hrr
             ·cases hx
          obtain ⟨olds, ho1, ho2, ho3⟩ := holds
          have hrun := Lu (P := P) (w := w) (ty := o.type) ht ht2 hi z2 (base := some a2) (sLen := len) (sCap := ccap) (n := n) (by omega) ho1 (hf w.drew rfl) hby (by omega) (by omega)
          have hgc := Na w (len + n) ccap e
          have htot : (olds ++ ds ++ (Builtin.zeroCells zv.cells (grownCap w (len + n) ccap e - (len + n))).toList).toArray.size = grownCap w (len + n) ccap e * i.size := by
           simp only [List.size_toArray, List.length_append, Array.length_toList, Jh, hsz, ho3, hdl]
           rw [← Nat.add_mul, ← Nat.add_mul]
           congr 1
           omega
          have hlr := ho2.append hds
          have htk : (os.take (len * i.size)).length = len * i.size := by simp; omega
          have R0 := R.drew
          obtain ⟨q1, q2⟩ := Z0 (w := w.drew) R0.wr (o' := os.take (len * i.size) ++ cs) (ds := (olds ++ ds ++ (Builtin.zeroCells zv.cells (grownCap w (len + n) ccap e - (len + n))).toList).toArray) e g0 (hm id hwr) (by rw [List.length_append, htk, hcl]; omega)
           (by rw [htot, List.length_append, htk, hcl, ← Nat.add_mul]; exact Nat.mul_le_mul_right _ hgc) (fun j v hj => by
            obtain ⟨y, hy, hrr⟩ := hlr.get hj
            refine ⟨?_, y, ?_, hrr⟩
            ·rcases Lh (List.mem_of_getElem? hj) with hv | hv
             ·obtain ⟨k, hk⟩ := List.getElem?_of_mem (List.mem_of_mem_take hv)
              exact (b5 k v hk).1
             ·exact hone v hv
            ·rw [List.getElem?_toArray, List.getElem?_append_left (Em hy).1]
             exact hy)
          have hJ : ∀ L : dU, (J.add id L) id = some L := fun L => by simp [Bk.add]
          have R1 := R0.move q1 q2
          refine ⟨_, _, _, _, hexec hv1 hv2 hrun, .inl rfl, ((Tr.drew J s.H w).mono R.hN).trans (q1.mono R.hN), R1.put_val (s := { s with H := s.H.set id (os.take (len * i.size) ++ cs) }) hd ?_⟩
          have hid := (Em g0).1
          refine .sl id 0 i.size _ _ (os.take (len * i.size) ++ cs) _ (grownCap w (len + n) ccap e) (by simp [hid]) (by rw [List.length_append, htk, hcl]; omega) hgc (Nat.mul_le_mul_right _ hgc) fun _ => ⟨_, hJ _, .inr ⟨rfl, by simp only [htot]; omega⟩⟩
        ·cases h
     ·cases h
    ·cases h
   ·cases h
 ·cases h
theorem Ld {α : Type} {l : List α} {i : Nat} {v : α} (h : l[i]? = some v) : l.set i v = l := by
 apply List.ext_getElem?
 intro j
 rw [List.getElem?_set]
 split
 ·rename_i e
  subst e
  split
  ·exact h.symm
  ·rename_i hl
   rw [List.getElem?_eq_none (by omega)]
 ·rfl
theorem eB {m : Md} (hm : ∀ id, m.wr id = true → B ≤ id) {c : Call} {x1 x2 : Operand} {p q : X} {t e : TypeId} {i : TypeInfo} (hop : o.op = .call c) (hb : c.callee = .builtin .copy) (ha : c.args.toList = [x1, x2])
  (hat : c.argTypes[0]? = some t) (ht : P.underlying t = some (.slice e)) (hi : P.info? e = some i)
  (h1 : cx x1 = some p) (h2 : cx x2 = some q) (R : B9 B N nt J s a w) (hd : ∀ d, o.dst = some d → d < nt) {f : FV} {s' : St} (h : U4 m s i.size p q = some (f, s')) : Gl P B N nt o J s a w f s' := by
 have haa : c.args = #[x1, x2] := by apply Array.toList_inj.1; rw [ha]
 have hexec : ∀ {base sb : Option Addr} {dLen dc n sc : Nat} {ds : List Value} {w' : World}, a.eval x1 = .slice base dLen dc → a.eval x2 = .slice sb n sc → (Builtin.firstCells i.size (min n dLen) (.slice sb n sc)).run P w = .ok ds.toArray w →
   ((∃ p, base = some p ∧ (storeCells p ds).run P w = .ok () w') ∨ base = none ∧ w' = w) → (execOp a.eval o).run P w = .ok (.value (goInt (min n dLen : Nat))) w' := fun {base sb dLen dc n sc ds w'} e1 e2 hf hs => by
  simp only [execOp, hop, resolve, hb, haa]
  rcases hs with ⟨p, rfl, hs⟩ | ⟨rfl, rfl⟩
  ·simp [invoke, builtin, Builtin.copy_, hat, e1, e2, run_underlying ht, Builtin.lenOf, Bg hi, hf, hs]
  ·simp [invoke, builtin, Builtin.copy_, hat, e1, e2, run_underlying ht, Builtin.lenOf, Bg hi, hf]
 unfold U4 at h
 split at h
 ·rename_i nc e1 hsrc
  obtain ⟨n, cs⟩ := nc
  simp only [St.val] at h; cases h
  obtain ⟨sb, sc, hv2, hcl, hc⟩ := Ru R h2 hsrc
  have hr := D7 R h1 e1
  generalize hv1 : a.eval x1 = cv at hr
  cases hr
  refine .of_val R hd (v := goInt (min n 0 : Nat)) (hexec (ds := []) hv1 hv2 ?_ (.inr ⟨rfl, rfl⟩)) ?_
  ·rw [Nat.min_zero]
   cases sb with
   | none => exact run_firstCells_none w _ _ _ _
   | some p => exact run_firstCells_some w _ 0 p n sc [] (by simp) (by simp)
  ·rw [Nat.min_zero]; exact .int _ _
 ·rename_i id off e3 len cap n cs e1 hsrc
  obtain ⟨sb, sc, hv2, hcl, hc⟩ := Ru R h2 hsrc
  have hr := D7 R h1 e1
  split at h
  ·rename_i os g0
   split at h
   ·rename_i hcnd
    obtain ⟨rfl, hval, hwr, hnr, hlc⟩ := hcnd
    cases h
    generalize hv1 : a.eval x1 = cv at hr
    cases hr with
    | sl _ _ _ _ _ o2 a2 ccap g1 g2 g3 g4 g5 =>
     rw [g0] at g1; cases g1
     obtain ⟨l, hl, hal⟩ := g5 hval
     have hmin : min n len ≤ n := Nat.min_le_left _ _
     have hmin2 : min n len ≤ len := Nat.min_le_right _ _
     have hm1 : min n len * i.size ≤ n * i.size := Nat.mul_le_mul_right _ hmin
     have hm2 : min n len * i.size ≤ len * i.size := Nat.mul_le_mul_right _ hmin2
     have hds : ∃ ds : List Value, (Builtin.firstCells i.size (min n len) (.slice sb n sc)).run P w = .ok ds.toArray w ∧ A7 J s.H (cs.take (min n len * i.size)) ds ∧ (∀ v ∈ cs.take (min n len * i.size), v.oneCell' = true) := by
      rcases hc with ⟨rfl, rfl⟩ | ⟨p', ds, rfl, q1, q2, q3⟩
      ·refine ⟨[], ?_, by simp; exact .nil, by simp⟩
       rw [Nat.zero_min]
       exact Gk (.inl ⟨rfl, rfl⟩)
      ·refine ⟨ds.take (min n len * i.size), run_firstCells_some w _ _ p' n sc _ ?_ fun j v hj => ?_, q1.take _, fun v hv => q2 v (List.mem_of_mem_take hv)⟩
       ·have := q1.1
        rw [List.length_take]
        omega
       ·rw [List.getElem?_take] at hj
        split at hj
        ·exact q3 j v hj
        ·cases hj
     obtain ⟨ds, hf, hr2, hone⟩ := hds
     have hlen : (cs.take (min n len * i.size)).length = min n len * i.size := by rw [List.length_take]; omega
     rcases hal with ⟨ha1, ha2⟩ | ⟨ha1, ha2⟩
     ·subst ha1
      have hnil : cs.take (min n 0 * i.size) = [] := by simp
      have hdn : ds = [] := by
       apply List.eq_nil_of_length_eq_zero
       rw [← hr2.1, hnil]
       rfl
      subst hdn
      rw [hnil]
      refine ⟨_, _, w, J, hexec hv1 hv2 hf (.inl ⟨a2, rfl, rfl⟩), .inl rfl, ?_, ?_⟩
      ·simp only [spl]
       rw [Ld g0]
       exact .refl _ _ _ _ _
      ·simp only [spl]
       rw [Ld g0]
       exact R.put_val hd (.int _ _)
     ·have hcc : len * i.size ≤ ccap * i.size := Nat.mul_le_mul_right _ g3
      have hin : l.sh + off + (cs.take (min n len * i.size)).length ≤ l.sz := by rw [hlen]; omega
      obtain ⟨r1, r2, r3⟩ := Jw (P := P) R.wr (i := off) g0 hl (hm id hwr) hr2 hone hin (.inl ⟨rfl, by rw [hlen]; omega⟩)
      have R1 := R.move r2 r3
      refine ⟨_, _, _, J, hexec hv1 hv2 hf (.inl ⟨a2, rfl, by rw [ha1]; exact r1⟩), .inl rfl, r2.mono R.hN, R1.put_val (s := { s with H := s.H.set id (spl os off (cs.take (min n len * i.size))) }) hd (.int _ _)⟩
   ·cases h
  ·cases h
 ·cases h
theorem dD {m : Md} (hm : ∀ id, m.wr id = true → B ≤ id) {c : Call} {x1 : Operand} {p : X} {t e : TypeId} {z : List Value} (hop : o.op = .call c) (hb : c.callee = .builtin .clear) (ha : c.args.toList = [x1])
  (hat : c.argTypes[0]? = some t) (ht : P.underlying t = some (.slice e)) (hz : Fv P e = some z)
  (h1 : cx x1 = some p) (R : B9 B N nt J s a w) (hd : ∀ d, o.dst = some d → d < nt) {f : FV} {s' : St} (h : Pi m s z.length z p = some (f, s')) : Gl P B N nt o J s a w f s' := by
 have haa : c.args = #[x1] := by apply Array.toList_inj.1; rw [ha]
 obtain ⟨i, zv, z1, z2, z3, z4, z5, z6⟩ := Dd hz
 have hzc : ∀ n, (Builtin.zeroCells zv.cells n).toList = Bn n z := fun n => by
  rw [← Qr]
  have : zv.cells = z.toArray := by rw [← z3]
  rw [this]
  simp [Builtin.zeroCells, madeCells]
 have htup : A9 J s.H (.tuple #[]) (.tuple #[]) := .tup _ _ rfl fun i x y hx => by simp at hx
 have hexec0 : ∀ {base : Option Addr} {n cc : Nat}, a.eval x1 = .slice base n cc → (base = none ∨ n = 0) → (execOp a.eval o).run P w = .ok (.value (.tuple #[])) w := fun {base n cc} e1 h0 => by
  simp only [execOp, hop, resolve, hb, haa]
  rcases h0 with rfl | rfl
  ·simp [invoke, builtin, Builtin.clear_, hat, e1, run_underlying ht]
  ·cases base <;> simp [invoke, builtin, Builtin.clear_, hat, e1, run_underlying ht]
 unfold Pi at h
 split at h
 ·rename_i e1
  simp only [St.val] at h; cases h
  have hr := D7 R h1 e1
  generalize hv1 : a.eval x1 = cv at hr
  cases hr
  exact .of_val R hd (hexec0 hv1 (.inl rfl)) htup
 ·rename_i id off e3 len cap e1
  have hr := D7 R h1 e1
  split at h
  ·rename_i os g0
   split at h
   ·rename_i hcnd
    obtain ⟨rfl, hval, hwr, hnr, hlc⟩ := hcnd
    cases h
    generalize hv1 : a.eval x1 = cv at hr
    cases hr with
    | sl _ _ _ _ _ o2 a2 ccap g1 g2 g3 g4 g5 =>
     rw [g0] at g1; cases g1
     obtain ⟨l, hl, hal⟩ := g5 hval
     by_cases h0 : len = 0
     ·subst h0
      have hnil : Bn 0 z = [] := by simp [Bn]
      rw [hnil]
      refine ⟨_, _, w, J, hexec0 hv1 (.inr rfl), .inl rfl, ?_, ?_⟩
      ·simp only [spl]
       rw [Ld g0]
       exact .refl _ _ _ _ _
      ·simp only [spl]
       rw [Ld g0]
       exact R.put_val hd htup
     ·rcases hal with ⟨ha1, ha2⟩ | ⟨ha1, ha2⟩
      ·exact absurd ha1 h0
      ·have hcc : len * z.length ≤ ccap * z.length := Nat.mul_le_mul_right _ g3
       have hzl := D1 len z
       have hin : l.sh + off + (Bn len z).length ≤ l.sz := by rw [hzl]; omega
       have hzs := Dc (n := len) z5
       obtain ⟨r1, r2, r3⟩ := Jw (P := P) R.wr (i := off) g0 hl (hm id hwr) (A7.scal hzs) (E9 hzs) hin (.inl ⟨rfl, by rw [hzl]; omega⟩)
       have R1 := R.move r2 r3
       have hrun : (execOp a.eval o).run P w = .ok (.value (.tuple #[])) (w.setCells l.b (l.sh + off) (Bn len z)) := by
        simp only [execOp, hop, resolve, hb, haa]
        obtain ⟨n', rfl⟩ : ∃ n', len = n' + 1 := ⟨len - 1, by omega⟩
        simp [invoke, builtin, Builtin.clear_, hat, hv1, run_underlying ht, zeroValue, typeInfo, z1, z2, hzc, ha1, r1]
       exact ⟨_, _, _, J, hrun, .inl rfl, r2.mono R.hN, R1.put_val (s := { s with H := s.H.set id (spl os off (Bn len z)) }) hd (.tup _ _ rfl fun i x y hx => by simp at hx)⟩
   ·cases h
  ·cases h
 ·cases h
end
section
variable {P : Program} {B N nt : Nat} {o : Oper} {J : Bk} {s : St} {a : Act} {w : World}
theorem Ns {xs : List Operand} {p : X} (h : Pd xs = some [p]) : ∃ x, xs = [x] ∧ cx x = some p := by
 cases xs with
 | nil => simp [Pd] at h
 | cons x xs =>
  simp only [Pd] at h
  split at h
  ·rename_i v vs e1 e2
   cases h
   cases xs with
   | nil => exact ⟨x, rfl, e1⟩
   | cons y ys =>
    simp only [Pd] at e2
    split at e2 <;> cases e2
  ·cases h
theorem Nv {xs : List Operand} {p q : X} (h : Pd xs = some [p, q]) : ∃ x y, xs = [x, y] ∧ cx x = some p ∧ cx y = some q := by
 cases xs with
 | nil => simp [Pd] at h
 | cons x xs =>
  simp only [Pd] at h
  split at h
  ·rename_i v vs e1 e2
   cases h
   obtain ⟨y, rfl, hy⟩ := Ns e2
   exact ⟨x, y, rfl, e1, hy⟩
  ·cases h
theorem zY {m : Md} {hv : Nat → Bool} (hm : ∀ id, m.wr id = true → B ≤ id) {k : CK} (hk : Og P hv o.dst o = some k) (R : B9 B N nt J s a w) (hB : B ≤ s.H.length) (hd : ∀ d, o.dst = some d → d < nt) {f : FV} {s' : St} (h : Ai m s k = some (f, s')) :
  Gl P B N nt o J s a w f s' := by
 unfold Og at hk
 simp only [Option.bind_eq_bind, Option.pure_def] at hk
 split at hk
 ·rename_i x hop
  obtain ⟨y, hy, hk⟩ := Option.bind_eq_some_iff.1 hk; cases hk
  exact Wi (.inl hop) hy R hd h
 ·rename_i x hop
  obtain ⟨y, hy, hk⟩ := Option.bind_eq_some_iff.1 hk; cases hk
  exact Wi (.inr hop) hy R hd h
 ·rename_i c p q hop
  obtain ⟨y1, h1, hk⟩ := Option.bind_eq_some_iff.1 hk
  obtain ⟨y2, h2, hk⟩ := Option.bind_eq_some_iff.1 hk
  obtain ⟨y3, h3, hk⟩ := Option.bind_eq_some_iff.1 hk; cases hk
  exact Zr hop h1 h2 h3 R hd h
 ·rename_i t hop
  obtain ⟨z, hz, hk⟩ := Option.bind_eq_some_iff.1 hk
  obtain ⟨d, hdst, hk⟩ := Option.bind_eq_some_iff.1 hk; cases hk
  split at h
  ·split at h
   ·exact bG hop hdst hz R (hd d hdst) h
   ·exact bA hop hdst hz R (hd d hdst) h
  ·exact aY hop hz R hB hd h
 ·rename_i t x hop
  obtain ⟨d, hdst, hk⟩ := Option.bind_eq_some_iff.1 hk
  obtain ⟨y, hy, hk⟩ := Option.bind_eq_some_iff.1 hk; cases hk
  split at h
  ·exact Y7 hop hdst hy R (hd d hdst) h
  ·exact aR hop hy R hB hd h
 ·rename_i t ps hop
  obtain ⟨i, hi, hk⟩ := Option.bind_eq_some_iff.1 hk
  obtain ⟨z, hz, hk⟩ := Option.bind_eq_some_iff.1 hk
  split at hk
  ·rename_i cs fs hu
   split at hk
   ·rename_i hc
    simp only [Bool.and_eq_true] at hc
    obtain ⟨xs, hxs, hk⟩ := Option.bind_eq_some_iff.1 hk; cases hk
    unfold Vj at h
    split at h
    ·simp only [Ai, Ma] at h
     split at h
     ·rename_i s1 hs1
      obtain ⟨J1, t1, R1⟩ := R.prom hB hs1
      obtain ⟨res, v, w', J', r1, r2, r3, r4⟩ := Mn hop hi hz hc.2 (.inl ⟨fs, hu, hc.1⟩) hxs R1 hd h
      exact ⟨res, v, w', J', r1, r2, t1.trans r3, r4⟩
     ·cases h
    exact Mn hop hi hz hc.2 (.inl ⟨fs, hu, hc.1⟩) hxs R hd h
   ·cases hk
  ·rename_i cs n e hu
   split at hk
   ·rename_i hc
    obtain ⟨xs, hxs, hk⟩ := Option.bind_eq_some_iff.1 hk; cases hk
    exact Mn hop hi hz hc (.inr ⟨n, e, hu⟩) hxs R hd h
   ·cases hk
  ·cases hk
 ·rename_i t len ps hop
  obtain ⟨dt, ht, hk⟩ := Option.bind_eq_some_iff.1 hk
  split at hk
  ·rename_i e
   obtain ⟨z, hz, hk⟩ := Option.bind_eq_some_iff.1 hk
   obtain ⟨d, hdst, hk⟩ := Option.bind_eq_some_iff.1 hk
   obtain ⟨xs, hxs, hk⟩ := Option.bind_eq_some_iff.1 hk
   split at hk
   ·rename_i hbig
    cases hk
    split at h
    ·exact eD hop hdst ht hz hxs hbig R (hd d hdst) h
    ·exact bV hop ht hz hxs hbig R hB hd h
   ·cases hk
  ·cases hk
 ·rename_i t x hop
  obtain ⟨⟨n, agg⟩, hi, hk⟩ := Option.bind_eq_some_iff.1 hk
  obtain ⟨y, hy, hk⟩ := Option.bind_eq_some_iff.1 hk; cases hk
  exact Yi hop hi hy R hd h
 ·rename_i t x v hop
  split at hk
  ·rename_i hdst
   obtain ⟨⟨n, agg⟩, hi, hk⟩ := Option.bind_eq_some_iff.1 hk
   obtain ⟨y, hy, hk⟩ := Option.bind_eq_some_iff.1 hk
   obtain ⟨z, hz, hk⟩ := Option.bind_eq_some_iff.1 hk; cases hk
   exact Xa hm hop hdst hi hy hz R h
  ·cases hk
 ·rename_i x hop
  obtain ⟨y, hy, hk⟩ := Option.bind_eq_some_iff.1 hk; cases hk
  exact Zp hop hy R hd h
 ·rename_i op t x y ty hop
  obtain ⟨x', hx, hk⟩ := Option.bind_eq_some_iff.1 hk
  obtain ⟨y', hy, hk⟩ := Option.bind_eq_some_iff.1 hk
  split at hk
  ·rename_i ht
   split at hk
   ·cases hk; exact Vo hop (.inl ⟨rfl, rfl⟩) ht hx hy R hd h
   ·cases hk; exact Vo hop (.inr ⟨rfl, rfl⟩) ht hx hy R hd h
   ·cases hk
  ·rename_i fs ht
   split at hk
   ·rename_i ks hks
    split at hk
    ·cases hk
    ·rename_i hst
     simp only [Bool.or_eq_true, not_or, Bool.not_eq_true] at hst
     split at hk
     ·cases hk; exact Vu hop (.inl ⟨rfl, rfl⟩) ht hks hst.1 hst.2 hx hy R hd h
     ·cases hk; exact Vu hop (.inr ⟨rfl, rfl⟩) ht hks hst.1 hst.2 hx hy R hd h
     ·cases hk
   ·cases hk
  ·cases hk; exact Vx hop hx hy R hd h
  ·cases hk; exact Vx hop hx hy R hd h
  ·cases hk
 ·rename_i op t x hop
  obtain ⟨y, hy, hk⟩ := Option.bind_eq_some_iff.1 hk; cases hk
  exact hG hop hy R hd h
 ·rename_i sr ds x hop
  obtain ⟨y, hy, hk⟩ := Option.bind_eq_some_iff.1 hk
  split at hk
  ·rename_i k0 k1 hs hds
   cases hk; exact W6 hop hs hds hy R hd h
  ·rename_i hs hds
   cases hk; exact bT hop hs hds hy R hd h
  ·rename_i e hs hds
   split at hk
   ·rename_i i he hi
    split at hk
    ·cases hk; exact cO (esz := 1) hop hs hds he hy R hB hd h rfl
    ·cases hk
   ·cases hk
  ·rename_i e hs hds
   split at hk
   ·rename_i i he hi
    split at hk
    ·cases hk; exact eC hop hs hds he hy R hd h
    ·cases hk
   ·cases hk
  ·cases hk
 ·rename_i g first caps hop
  split at hk
  ·rename_i hf
   obtain ⟨ys, hys, hk⟩ := Option.bind_eq_some_iff.1 hk; cases hk
   exact fY hop hf hys R hd h
  ·cases hk
 ·rename_i t l c hop
  obtain ⟨dt, ht, hk⟩ := Option.bind_eq_some_iff.1 hk
  split at hk
  ·rename_i e
   obtain ⟨z, hz, hk⟩ := Option.bind_eq_some_iff.1 hk
   obtain ⟨i, hi, hk⟩ := Option.bind_eq_some_iff.1 hk
   obtain ⟨x, hx, hk⟩ := Option.bind_eq_some_iff.1 hk
   obtain ⟨y, hy, hk⟩ := Option.bind_eq_some_iff.1 hk; cases hk
   split at h
   ·rename_i hdv
    obtain ⟨d, hdst, _⟩ := Option.map_eq_some_iff.1 hdv
    exact W4 hop hdst ht hz hi hx hy R (hd d hdst) h
   ·exact Xs hop ht hz hi hx hy R hB hd h
  ·cases hk
 ·rename_i t x lo hi mx hop
  obtain ⟨y, hy, hk⟩ := Option.bind_eq_some_iff.1 hk
  obtain ⟨lo', hlo, hk⟩ := Option.bind_eq_some_iff.1 hk
  obtain ⟨hi', hhi, hk⟩ := Option.bind_eq_some_iff.1 hk
  obtain ⟨mx', hmx, hk⟩ := Option.bind_eq_some_iff.1 hk
  obtain ⟨e0, ht, hk⟩ := Option.bind_eq_some_iff.1 hk
  split at hk
  ·rename_i e
   obtain ⟨i, hie, hk⟩ := Option.bind_eq_some_iff.1 hk
   split at hk
   ·cases hk
   ·rename_i hz
    cases hk; exact aN hop ht hie hz hy hlo hhi hmx R hd h
  ·cases hk
 ·rename_i t x lo hi mx _ hop
  split at hk
  ·cases hk
  ·rename_i hmx
   have hmx : mx = none := by cases mx <;> simp_all
   subst hmx
   obtain ⟨y, hy, hk⟩ := Option.bind_eq_some_iff.1 hk
   obtain ⟨lo', hlo, hk⟩ := Option.bind_eq_some_iff.1 hk
   obtain ⟨hi', hhi, hk⟩ := Option.bind_eq_some_iff.1 hk
   split at hk
   ·rename_i ht
    cases hk; exact Zx hop ht hy hlo hhi R hd h
   ·rename_i e ht
    obtain ⟨i, hie, hk⟩ := Option.bind_eq_some_iff.1 hk
    split at hk
    ·cases hk
    ·rename_i hz
     cases hk; exact dW hop ht hie hz hy hlo hhi R hd h
   ·cases hk
 ·rename_i t x n hop
  obtain ⟨dt, ht, hk⟩ := Option.bind_eq_some_iff.1 hk
  split at hk
  ·rename_i fs
   obtain ⟨fd, hfd, hk⟩ := Option.bind_eq_some_iff.1 hk
   obtain ⟨i, hi, hk⟩ := Option.bind_eq_some_iff.1 hk
   split at hk
   ·cases hk
   ·rename_i hz
    obtain ⟨y, hy, hk⟩ := Option.bind_eq_some_iff.1 hk; cases hk
    exact Zz hop ht hfd hi hz hy R hd h
  ·cases hk
 ·rename_i t x n hop
  obtain ⟨dt, ht, hk⟩ := Option.bind_eq_some_iff.1 hk
  split at hk
  ·rename_i fs
   obtain ⟨fd, hfd, hk⟩ := Option.bind_eq_some_iff.1 hk
   obtain ⟨⟨m, agg⟩, hi, hk⟩ := Option.bind_eq_some_iff.1 hk
   obtain ⟨y, hy, hk⟩ := Option.bind_eq_some_iff.1 hk; cases hk
   exact bX hop ht hfd hi hy R hd h
  ·cases hk
 ·rename_i t x ix hop
  obtain ⟨x', hx, hk⟩ := Option.bind_eq_some_iff.1 hk
  obtain ⟨y', hy, hk⟩ := Option.bind_eq_some_iff.1 hk
  split at hk
  ·rename_i e ht
   obtain ⟨i, hi, hk⟩ := Option.bind_eq_some_iff.1 hk; cases hk
   exact Yw hop ht hi hx hy R hd h
  ·rename_i n e ht
   obtain ⟨i, hi, hk⟩ := Option.bind_eq_some_iff.1 hk; cases hk
   exact Xt hop ht hi hx hy R hd h
  ·cases hk
 ·rename_i t x ix hop
  split at hk
  ·rename_i ht
   obtain ⟨x', hx, hk⟩ := Option.bind_eq_some_iff.1 hk
   obtain ⟨y', hy, hk⟩ := Option.bind_eq_some_iff.1 hk; cases hk
   exact cR hop ht hx hy R hd h
  ·rename_i n e ht
   obtain ⟨⟨k, agg⟩, ht2, hk⟩ := Option.bind_eq_some_iff.1 hk
   simp only at hk
   split at hk
   ·rename_i hka
    obtain ⟨rfl, rfl⟩ := hka
    obtain ⟨x', hx, hk⟩ := Option.bind_eq_some_iff.1 hk
    obtain ⟨y', hy, hk⟩ := Option.bind_eq_some_iff.1 hk; cases hk
    exact Zu hop ht ht2 hx hy R hd h
   ·cases hk
  ·cases hk
 ·rename_i x n hop
  obtain ⟨y, hy, hk⟩ := Option.bind_eq_some_iff.1 hk; cases hk
  exact cK hop hy R hd h
 ·rename_i c hop
  split at hk
  ·obtain ⟨fn, _, hk⟩ := Option.bind_eq_some_iff.1 hk
   split at hk
   ·obtain ⟨ys, _, hk⟩ := Option.bind_eq_some_iff.1 hk; cases hk
    simp [Ai] at h
   ·cases hk
  ·obtain ⟨y, _, hk⟩ := Option.bind_eq_some_iff.1 hk
   obtain ⟨ys, _, hk⟩ := Option.bind_eq_some_iff.1 hk; cases hk
   simp [Ai] at h
  ·rename_i b hb
   obtain ⟨t, hat, hk⟩ := Option.bind_eq_some_iff.1 hk
   obtain ⟨d, ht, hk⟩ := Option.bind_eq_some_iff.1 hk
   obtain ⟨xs, hxs, hk⟩ := Option.bind_eq_some_iff.1 hk
   split at hk
   ·cases hk
    obtain ⟨x, ha, hx⟩ := Ns hxs
    exact Y8 hop hb ha hat ht hx R hd h
   ·cases hk
    obtain ⟨x, ha, hx⟩ := Ns hxs
    exact aI hop hb ha hat ht hx R hd h
   ·cases hk
    obtain ⟨x, y, ha, hx, hy⟩ := Nv hxs
    exact mP hop hb ha hx hy R hd h
   ·cases hk
    obtain ⟨x, y, ha, hx, hy⟩ := Nv hxs
    exact kO hop hb ha hx hy R hd h
   ·obtain ⟨t2, hat2, hk⟩ := Option.bind_eq_some_iff.1 hk
    obtain ⟨d2, ht2, hk⟩ := Option.bind_eq_some_iff.1 hk
    split at hk
    ·obtain ⟨i, hi, hk⟩ := Option.bind_eq_some_iff.1 hk
     obtain ⟨z, hz, hk⟩ := Option.bind_eq_some_iff.1 hk
     split at hk
     ·cases hk
     ·rename_i hn
      cases hk
      obtain ⟨x, y, ha, hx, hy⟩ := Nv hxs
      unfold fJ at h
      split at h
      ·split at h
       ·simp only [Ai, Kj] at h
        split at h
        ·rename_i s1 hs1
         obtain ⟨J1, t1, R1⟩ := R.prom hB hs1
         have hB1 : B ≤ s1.H.length := by
          have := Xi hs1
          omega
         obtain ⟨res, v, w', J', r1, r2, r3, r4⟩ := Q5 hm hop hb ha hat hat2 ht ht2 hi hz (fun e => hn (.inl e)) hx hy R1 hB1 hd h
         exact ⟨res, v, w', J', r1, r2, t1.trans r3, r4⟩
        ·cases h
       ·exact Q5 hm hop hb ha hat hat2 ht ht2 hi hz (fun e => hn (.inl e)) hx hy R hB hd h
      ·exact Q5 hm hop hb ha hat hat2 ht ht2 hi hz (fun e => hn (.inl e)) hx hy R hB hd h
    ·cases hk
   ·obtain ⟨i, hi, hk⟩ := Option.bind_eq_some_iff.1 hk; cases hk
    obtain ⟨x, y, ha, hx, hy⟩ := Nv hxs
    exact eB hm hop hb ha hat ht hi hx hy R hd h
   ·obtain ⟨z, hz, hk⟩ := Option.bind_eq_some_iff.1 hk; cases hk
    obtain ⟨x, ha, hx⟩ := Ns hxs
    exact dD hm hop hb ha hat ht hz hx R hd h
   ·cases hk
  ·cases hk
 ·cases hk
end
end Go.Proofs.YtglboiahgpfjdaaGreat.Ev
