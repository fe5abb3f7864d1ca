/- The program's ShowBase writes what the reference's writes, for every store of rows, and leaves it as it was. Conditions: none beside those of the given row. -/
import Derived.Test.YtokicdkdllndpaaXA0
import Derived.Test.YtokicdkdllndpaaXAf100
import Derived.Test.YtokicdkdllndpaaXAf101
import Derived.Test.YtokicdkdllndpaaXAf58
import Derived.Test.YtokicdkdllndpaaXAf64
import Derived.Test.YtokicdkdllndpaaXAf65
import Derived.Test.YtokicdkdllndpaaXAf102
import Derived.Test.YtokicdkdllndpaaXAf60
import Derived.Test.YtokicdkdllndpaaXAf63
import Derived.Test.YtokicdkdllndpaaXAf77
import Derived.Test.YtokicdkdllndpaaXAf14
import Derived.Test.YtokicdkdllndpaaXAf15
import Derived.Test.YtokicdkdllndpaaXAf16
import Derived.Test.YtokicdkdllndpaaXAf17
import Derived.Test.YtokicdkdllndpaaXAf18
import Derived.Test.YtokicdkdllndpaaXAf19
import Derived.Test.YtokicdkdllndpaaXAf59
import Derived.Test.YtokicdkdllndpaaXAf61
import Derived.Test.YtokicdkdllndpaaXAf62
import Derived.Test.YtokicdkdllndpaaXAf99
import Derived.Test.YtokicdkdllndpaaXAf13
import Derived.Test.YtokicdkdllndpaaXAf4
import Derived.Test.YtokicdkdllndpaaXAf57
import Derived.Test.YtokicdkdllndpaaRows
import Derived.WalkKit
import Derived.ProofKit
import Derived.OpenShut
import Derived.ShutString
import Derived.ChangeOld
import Derived.Below
import Derived.SizedLaws
import Derived.Carry
/- Small lemmas on loops with rounds, on numbers that wrap round and on lists: what all pure laws of this seat use. -/
namespace Go.Proofs.Ytokicdkdllndpaa.K
open Go.RowKit Go.Proofs.YtokicdkdllndpaaW.PrintWords

theorem w64 {n : Int} (h0 : -9223372036854775808 ≤ n) (h1 : n ≤ 9223372036854775807) : wrap64 n = n := by
  unfold wrap64
  omega
theorem wsucc {i : Nat} (h : i < 9223372036854775807) : wrap64 ((i : Int) + 1) = ((i + 1 : Nat) : Int) := by
  unfold wrap64
  omega
theorem wadd1 {i : Int} (h0 : -1 ≤ i) (h : i < 9223372036854775807) : wrap64 (i + 1) = i + 1 := by
  unfold wrap64
  omega
theorem rdn (l : List Int) (i : Nat) : rd l (i : Int) = l.getD i 0 := rfl
theorem rd_get {l : List Int} {i : Nat} (h : i < l.length) : rd l (i : Int) = l[i] := by
  rw [rdn, List.getD_eq_getElem?_getD, List.getElem?_eq_getElem h]
  rfl
theorem wf_rd {l : List Int} (hw : ∀ x ∈ l, (Lit.int .i64 x).wf = true) (i : Int) : -9223372036854775808 ≤ rd l i ∧ rd l i ≤ 9223372036854775807 := by
  unfold rd
  rw [List.getD_eq_getElem?_getD]
  rcases h : l[i.toNat]? with _ | x
  · simp
  · have := hw x (List.mem_of_getElem? h)
    simp [Lit.wf, IntKind.min, IntKind.max, IntKind.signed, IntKind.bits] at this
    simpa using this
theorem wf_int {x : Int} (h : (Lit.int .i64 x).wf = true) : -9223372036854775808 ≤ x ∧ x ≤ 9223372036854775807 := by
  simp [Lit.wf, IntKind.min, IntKind.max, IntKind.signed, IntKind.bits] at h
  exact h
/-- From the last round back to the first. -/
theorem down {P : Nat → Prop} (n : Nat) (hend : P n) (hstep : ∀ i, i < n → P (i + 1) → P i) : ∀ i, i ≤ n → P i := by
  intro i hi
  obtain ⟨d, rfl⟩ : ∃ d, n = i + d := ⟨n - i, by omega⟩
  clear hi
  induction d generalizing i with
  | zero => exact hend
  | succ d ih => exact hstep i (by omega) (ih (i + 1) (by rw [show i + 1 + d = i + (d + 1) by omega]; exact hend) (fun j hj => hstep j (by omega)))
theorem evr {α : Type} {g : Nat → Option α} {r r' : α} (h : Ev g r) (e : r = r') : Ev g r' := e ▸ h
theorem evc {α : Type} {o : Option α} {r : α} (h : o = some r) : Ev (fun _ => o) r := ⟨0, fun _ _ => h⟩
theorem evu {α : Type} {g : Nat → Option α} {r r' : α} (h : Ev g r) (h' : Ev g r') : r = r' := by
  obtain ⟨K, h⟩ := h
  obtain ⟨K', h'⟩ := h'
  have h1 := h (max K K') (by omega)
  have h2 := h' (max K K') (by omega)
  rw [h1] at h2
  exact Option.some.inj h2
theorem drop_eq_iff {α : Type} {a b : List α} {i : Nat} (hi : i < a.length) (hj : i < b.length) : a.drop i = b.drop i ↔ a[i] = b[i] ∧ a.drop (i + 1) = b.drop (i + 1) := by
  rw [List.drop_eq_getElem_cons hi, List.drop_eq_getElem_cons hj, List.cons.injEq]
end Go.Proofs.Ytokicdkdllndpaa.K

/- A test of each place of a list, from one on. -/
namespace Go.Proofs.Ytokicdkdllndpaa.K
/-- A test of each place from i on. -/
def allFrom (q : Nat → Bool) (n i : Nat) : Bool := (List.range' i (n - i)).all q
theorem allFrom_end (q : Nat → Bool) (n : Nat) : allFrom q n n = true := by simp [allFrom]
theorem allFrom_step (q : Nat → Bool) {n i : Nat} (h : i < n) : allFrom q n i = (q i && allFrom q n (i + 1)) := by
  unfold allFrom
  rw [show n - i = (n - (i + 1)) + 1 by omega, List.range'_succ, List.all_cons]
theorem allFrom_iff (q : Nat → Bool) (n i : Nat) : allFrom q n i = true ↔ ∀ j, i ≤ j → j < n → q j = true := by
  unfold allFrom
  rw [List.all_eq_true]
  refine ⟨fun h j h1 h2 => h j (List.mem_range'_1.2 (by omega)), fun h j hj => ?_⟩
  have := List.mem_range'_1.1 hj
  exact h j (by omega) (by omega)
theorem allFrom_congr {q q' : Nat → Bool} {n : Nat} (h : ∀ j, j < n → q j = q' j) (i : Nat) : allFrom q n i = allFrom q' n i := by
  rw [Bool.eq_iff_iff, allFrom_iff, allFrom_iff]
  exact ⟨fun k j h1 h2 => (h j h2) ▸ k j h1 h2, fun k j h1 h2 => (h j h2).symm ▸ k j h1 h2⟩
end Go.Proofs.Ytokicdkdllndpaa.K

/- Tests of bounds, in the program and in the reference. -/
namespace Go.Proofs.Ytokicdkdllndpaa.Base
open Go.RowKit Go.Proofs.YtokicdkdllndpaaW.PrintWords Go.Proofs.YtokicdkdllndpaaW.PrintMore Go.Proofs.Ytokicdkdllndpaa.K Go.Proofs.Ytokicdkdllndpaa.XA

theorem l1In_eq (a b c : Int) : spec_l1In.f a b c = some (decide (b ≤ a ∧ a ≤ c)) := by
  unfold spec_l1In.f
  by_cases h : a ≥ b
  · rw [if_pos h]
    simp [show b ≤ a from h]
  · rw [if_neg h]
    simp [show ¬ b ≤ a from h]
theorem within_eq (a b c : Int) : impl_within.f a b c = some (decide (b ≤ a ∧ a ≤ c)) := by
  unfold impl_within.f
  by_cases h : a ≥ b
  · rw [if_pos h]
    simp [show b ≤ a from h]
  · rw [if_neg h]
    simp [show ¬ b ≤ a from h]
theorem isKey_eq (a : Int) : impl_isKey.f a = some (decide (1 ≤ a ∧ a ≤ 1000000)) := by
  unfold impl_isKey.f
  rw [within_eq]
  rfl
end Go.Proofs.Ytokicdkdllndpaa.Base

/- The bits of small numbers. -/
namespace Go.Proofs.Ytokicdkdllndpaa.K
open Go.RowKit Go.Proofs.YtokicdkdllndpaaW.PrintWords

theorem i64_small (n : Nat) (h : n < 9223372036854775808) : IntKind.i64.wrap (n : Int) = (n : Int) := by
  simp [IntKind.wrap, IntKind.bits, IntKind.signed]
  omega
theorem ofInt_nat (a : Nat) (ha : a < 9223372036854775808) : (BitVec.ofInt 64 (a : Int)).toNat = a := by
  rw [BitVec.ofInt_natCast, BitVec.toNat_ofNat]
  exact Nat.mod_eq_of_lt (by omega)
theorem bits_and_nat (a b : Nat) (ha : a < 9223372036854775808) (hb : b < 9223372036854775808) : Go.bits .and .i64 (a : Int) (b : Int) = ((a &&& b : Nat) : Int) := by
  have hx : a &&& b ≤ a := Nat.and_le_left
  show IntKind.i64.wrap ((BitVec.ofInt 64 (a : Int) &&& BitVec.ofInt 64 (b : Int)).toNat : Int) = _
  rw [BitVec.toNat_and, ofInt_nat a ha, ofInt_nat b hb, i64_small _ (by omega)]
/-- What '& m' leaves, of any number. -/
theorem bits_and_le (x : Int) (m : Nat) (hm : m < 9223372036854775808) : 0 ≤ Go.bits .and .i64 x (m : Int) ∧ Go.bits .and .i64 x (m : Int) ≤ (m : Int) := by
  have hx : (BitVec.ofInt 64 x).toNat &&& m ≤ m := Nat.and_le_right
  have h : Go.bits .and .i64 x (m : Int) = (((BitVec.ofInt 64 x).toNat &&& m : Nat) : Int) := by
    show IntKind.i64.wrap ((BitVec.ofInt 64 x &&& BitVec.ofInt 64 (m : Int)).toNat : Int) = _
    rw [BitVec.toNat_and, ofInt_nat m hm, i64_small _ (by omega)]
  rw [h]
  omega
end Go.Proofs.Ytokicdkdllndpaa.K

/- Numbers as bytes: program and reference write the same. -/
set_option linter.unusedSimpArgs false
namespace Go.Proofs.Ytokicdkdllndpaa.Var
open Go.RowKit Go.Proofs.YtokicdkdllndpaaW.PrintWords Go.Proofs.YtokicdkdllndpaaW.PrintMore Go.Proofs.Ytokicdkdllndpaa.K Go.Proofs.Ytokicdkdllndpaa.XA Go.Proofs.Ytokicdkdllndpaa.Base

theorem bits_or_nat (a b : Nat) (ha : a < 4611686018427387904) (hb : b < 4611686018427387904) : Go.bits .or .i64 (a : Int) (b : Int) = ((a ||| b : Nat) : Int) := by
  have hx : a ||| b < 2 ^ 62 := Nat.or_lt_two_pow (by omega) (by omega)
  show IntKind.i64.wrap ((BitVec.ofInt 64 (a : Int) ||| BitVec.ofInt 64 (b : Int)).toNat : Int) = _
  rw [BitVec.toNat_or, ofInt_nat a (by omega), ofInt_nat b (by omega), i64_small _ (by omega)]
theorem low_byte (m : Nat) (hm : m < 4611686018427387904) : (Go.bits .or .i64 (Go.bits .and .i64 (m : Int) 127) 128) % 256 = (wrap64 (128 + (Int.tmod (m : Int) 128))) % 256 := by
  have h1 : m &&& 127 = m % 128 := Nat.and_two_pow_sub_one_eq_mod m 7
  have h2 : (m % 128) ||| 128 = m % 128 + 128 := by
    rw [Nat.or_comm, Nat.add_comm]
    exact (Nat.two_pow_add_eq_or_of_lt (i := 7) (show m % 128 < 2 ^ 7 by omega) 1).symm
  rw [show ((127 : Int)) = ((127 : Nat) : Int) from rfl, bits_and_nat m 127 (by omega) (by omega), h1, show ((128 : Int)) = ((128 : Nat) : Int) from rfl, bits_or_nat (m % 128) 128 (by omega) (by omega), h2]
  rw [show Int.tmod (m : Int) ((128 : Nat) : Int) = ((m % 128 : Nat) : Int) from rfl, w64 (by omega) (by omega)]
  omega
theorem var_loop : ∀ (n : Nat), n ≤ 7 → ∀ (m : Nat), m < 128 ^ (n + 1) → ∀ acc : List Int, acc.length + n ≤ 8 → ∃ ys : List Int, ys.length ≤ acc.length + n + 1 ∧ Ev (fun k => spec_Var.l0 k (m : Int) acc) (strOfNums ys) ∧ Ev (fun k => impl_Var.l0 k (m : Int) acc) (strOfNums ys) := by
  intro n
  induction n with
  | zero =>
    intro _ m hm acc ha
    refine ⟨acc ++ [(m : Int) % 256], (by simp), ?_, ?_⟩
    · refine Ev.step (fun k => by rw [spec_Var.l0]) ?_
      simp only [show ¬ (m : Int) ≥ 128 by omega, if_false, show acc.length < 140737488355328 by omega, if_true]
      exact Ev.now _
    · refine Ev.step (fun k => by rw [impl_Var.l0]) ?_
      simp only [show ¬ (m : Int) > 127 by omega, if_false, show acc.length < 140737488355328 by omega, if_true]
      exact Ev.now _
  | succ n ih =>
    intro hn m hm acc ha
    by_cases h : (m : Int) ≥ 128
    · have hq : m / 128 < 128 ^ (n + 1) := by
        rw [Nat.div_lt_iff_lt_mul (by omega)]
        exact hm
      have hb : m < 4611686018427387904 := by
        have h9 : 128 ^ (n + 1 + 1) ≤ 128 ^ 8 := Nat.pow_le_pow_right (by omega) (by omega)
        exact Nat.lt_of_lt_of_le hm (Nat.le_trans h9 (by decide))
      obtain ⟨ys, hy, hs, hi⟩ := ih (by omega) (m / 128) hq (acc ++ [(wrap64 (128 + (Int.tmod (m : Int) 128))) % 256]) (by simp only [List.length_append, List.length_singleton]; omega)
      refine ⟨ys, (by simp only [List.length_append, List.length_singleton] at hy; omega), ?_, ?_⟩
      · refine Ev.step (fun k => by rw [spec_Var.l0]) ?_
        have e : wrap64 (Int.tdiv (m : Int) 128) = ((m / 128 : Nat) : Int) := by
          rw [show Int.tdiv (m : Int) 128 = ((m / 128 : Nat) : Int) from rfl, w64 (by omega) (by omega)]
        simp only [h, if_true, show acc.length < 140737488355328 by omega, e]
        exact hs
      · refine Ev.step (fun k => by rw [impl_Var.l0]) ?_
        have e : (m : Int) / 128 = ((m / 128 : Nat) : Int) := by omega
        simp only [show (m : Int) > 127 by omega, if_true, show acc.length < 140737488355328 by omega, low_byte m hb, e]
        exact hi
    · have hm' : m < 128 ^ (n + 1) := by
        have h1 : 128 ^ 1 ≤ 128 ^ (n + 1) := Nat.pow_le_pow_right (by omega) (by omega)
        exact Nat.lt_of_lt_of_le (show m < 128 ^ 1 by omega) h1
      obtain ⟨ys, hy, hs, hi⟩ := ih (by omega) m hm' acc (by omega)
      exact ⟨ys, by omega, hs, hi⟩
theorem Var (x : Int) : ∃ ys : List Int, ys.length ≤ 9 ∧ Ev (fun k => spec_Var.f k x) (strOfNums ys) ∧ Ev (fun k => impl_Var.f k x) (strOfNums ys) := by
  unfold spec_Var.f impl_Var.f
  simp only [l1In_eq, within_eq, Option.bind_some]
  by_cases h : 0 ≤ x ∧ x ≤ 562949953421311
  · obtain ⟨m, rfl⟩ := Int.eq_ofNat_of_zero_le h.1
    obtain ⟨ys, hy, hs, hi⟩ := var_loop 7 (by omega) m (by have : (128 : Nat) ^ (7 + 1) = 72057594037927936 := rfl; omega) [] (by simp)
    refine ⟨ys, (by simp only [List.length_nil] at hy; omega), ?_, ?_⟩
    · simp only [h, and_self, decide_true, if_true]
      exact hs
    · simp only [h, and_self, decide_true, if_true]
      exact hi
  · refine ⟨[], by simp, ?_, ?_⟩
    · simp only [h, decide_false, reduceCtorEq, if_false]
      exact Ev.now _
    · simp only [h, decide_false, reduceCtorEq, if_false]
      exact Ev.now _
end Go.Proofs.Ytokicdkdllndpaa.Var

/- What the laws' helpers on lists of records come to (printed by wip/rowsgen.py): a copy is the list, a list is like itself, marks are found again. -/
set_option linter.unusedSimpArgs false
namespace Go.Proofs.Ytokicdkdllndpaa.RRowS
open Go.RowKit Go.Proofs.YtokicdkdllndpaaW.PrintWords Go.Proofs.YtokicdkdllndpaaW.PrintMore Go.Proofs.Ytokicdkdllndpaa.K Go.Proofs.Ytokicdkdllndpaa.XA

theorem rdA {l : List S43} {i : Nat} (h : i < l.length) : rd_T43 l (i : Int) = l[i] := by
  unfold rd_T43
  rw [Int.toNat_natCast, List.getD_eq_getElem?_getD, List.getElem?_eq_getElem h]
  rfl
theorem rdB {l : List S47} {i : Nat} (h : i < l.length) : rd_T47 l (i : Int) = l[i] := by
  unfold rd_T47
  rw [Int.toNat_natCast, List.getD_eq_getElem?_getD, List.getElem?_eq_getElem h]
  rfl
def cv (x : S43) : S47 := ⟨x.f0, x.f1, x.f2, x.f3⟩
theorem toS (l : List S43) (hl : l.length ≤ 8796093022208) : Ev (fun k => laws_toRowS.f k l) (l.map cv) := by
  unfold laws_toRowS.f
  simp only [Int.natCast_nonneg, Int.toNat_natCast, hl, if_true]
  have key : ∀ i, i ≤ l.length → ∀ acc : List S47, acc.length = l.length → Ev (fun k => laws_toRowS.l0 k l acc (i : Int)) (acc.take i ++ (l.map cv).drop i) := by
    refine down _ (fun acc ha => ?_) (fun i hi ih acc ha => ?_)
    · refine Ev.step (fun k => by rw [laws_toRowS.l0]) ?_
      simp only [Int.lt_irrefl, if_false]
      exact evr (Ev.now _) (by simp [← ha])
    · refine Ev.step (fun k => by rw [laws_toRowS.l0]) ?_
      have h1 : (i : Int) < (l.length : Int) := by omega
      have h2 : (i : Int) < (acc.length : Int) := by omega
      simp only [h1, h2, Int.natCast_nonneg, if_true, wsucc (show i < 9223372036854775807 by omega), Int.toNat_natCast, rdA hi, laws_toRow.f, Option.bind_some]
      refine evr (ih (acc.set i (cv l[i])) (by simp [ha])) ?_
      rw [List.take_succ_eq_append_getElem (by simp; omega), List.getElem_set_self, List.take_set_of_le (by omega), List.append_assoc, List.drop_eq_getElem_cons (l := l.map cv) (i := i) (by simpa using hi), List.getElem_map]
      rfl
  refine evr (key 0 (by omega) _ (by simp)) (by simp)
theorem eqS (a : List S47) (hb : a.length < 9223372036854775807) : Ev (fun k => laws_eqRowS.f k a a) true := by
  unfold laws_eqRowS.f
  simp only [if_true]
  have key : ∀ i, i ≤ a.length → Ev (fun k => laws_eqRowS.l0 k a a (i : Int)) true := by
    refine down _ ?_ (fun i hi ih => ?_)
    · refine Ev.step (fun k => by rw [laws_eqRowS.l0]) ?_
      simp only [Int.lt_irrefl, if_false]
      exact Ev.now _
    · refine Ev.step (fun k => by rw [laws_eqRowS.l0]) ?_
      simp only [show (i : Int) < (a.length : Int) by omega, Int.natCast_nonneg, if_true, wsucc (show i < 9223372036854775807 by omega), laws_eqRow.f, Option.bind_some, decide_true, beq_self_eq_true, bne_self_eq_false, reduceCtorEq, if_false]
      exact ih
  exact key 0 (by omega)
end Go.Proofs.Ytokicdkdllndpaa.RRowS

/- What the functions on stores of rows come to: BaseOk and ShowBase, in the program and in the reference alike. -/
set_option linter.unusedSimpArgs false
namespace Go.Proofs.Ytokicdkdllndpaa.Bases
open Go.RowKit Go.Proofs.YtokicdkdllndpaaW.PrintWords Go.Proofs.YtokicdkdllndpaaW.PrintMore Go.Proofs.Ytokicdkdllndpaa.K Go.Proofs.Ytokicdkdllndpaa.XA Go.Proofs.Ytokicdkdllndpaa.Base Go.Proofs.Ytokicdkdllndpaa.RRowS

theorem isTime_eq (a : Int) : impl_isTime.f a = some (decide (0 ≤ a ∧ a ≤ 100000)) := by
  unfold impl_isTime.f
  rw [within_eq]
  rfl
theorem isWho_eq (a : Int) : impl_isWho.f a = some (decide (0 ≤ a ∧ a ≤ 99)) := by
  unfold impl_isWho.f
  rw [within_eq]
  rfl
def rowOk (a b c : Int) : Bool := decide (0 ≤ a ∧ a ≤ 99) && (decide (1 ≤ b ∧ b ≤ 1000000) && decide (1 ≤ c ∧ c ≤ 100000))
theorem l20Row_eq (a b c : Int) (d : Bool) : spec_l20Row.f a b c d = some (rowOk a b c) := by
  unfold spec_l20Row.f rowOk
  simp only [l1In_eq, Option.bind_some]
  by_cases h1 : 0 ≤ a ∧ a ≤ 99 <;> by_cases h2 : 1 ≤ b ∧ b ≤ 1000000 <;> simp only [h1, h2, decide_true, decide_false, if_true, if_false, Bool.true_and, Bool.false_and, Bool.and_false, reduceCtorEq, and_self]
theorem rowOk_eq (a b c : Int) (d : Bool) : impl_rowOk.f a b c d = some (rowOk a b c) := by
  unfold impl_rowOk.f rowOk
  simp only [within_eq, isWho_eq, isKey_eq, Option.bind_some]
  by_cases h1 : 0 ≤ a ∧ a ≤ 99 <;> by_cases h2 : 1 ≤ b ∧ b ≤ 1000000 <;> simp only [h1, h2, decide_true, decide_false, if_true, if_false, Bool.true_and, Bool.false_and, Bool.and_false, reduceCtorEq, and_self]
theorem pred_cast {i : Nat} (h : 0 < i) (hi : i < 9223372036854775807) : wrap64 ((i : Int) - 1) = ((i - 1 : Nat) : Int) := by
  rw [w64 (by omega) (by omega)]
  omega
def rowAt (l : List S47) (i : Nat) : Bool := rowOk (rd_T47 l (i : Int)).f0 (rd_T47 l (i : Int)).f1 (rd_T47 l (i : Int)).f2 && !(decide (0 < i) && decide ((rd_T47 l ((i - 1 : Nat) : Int)).f0 ≥ (rd_T47 l (i : Int)).f0))
def baseOk (n : Int) (l : List S47) : Bool := allFrom (rowAt l) l.length 0 && (decide (l.length ≤ 12) && decide (0 ≤ n ∧ n ≤ 100000))
theorem baseOk_len {n : Int} {l : List S47} (h : baseOk n l = true) : l.length ≤ 12 := by
  unfold baseOk at h
  simp only [Bool.and_eq_true, decide_eq_true_eq] at h
  exact h.2.1
theorem spec_loop (n : Int) (l : List S47) (hl : l.length ≤ 1125899906842624) : ∀ i, i ≤ l.length → Ev (fun k => spec_BaseOk.l0 k (i : Int) n l) (allFrom (rowAt l) l.length i) := by
  refine down _ ?_ (fun i hi ih => ?_)
  · refine Ev.step (fun k => by rw [spec_BaseOk.l0]) ?_
    simp only [Int.lt_irrefl, if_false]
    exact evr (Ev.now _) (allFrom_end _ _).symm
  · refine Ev.step (fun k => by rw [spec_BaseOk.l0]) ?_
    rw [allFrom_step _ hi]
    simp only [show (i : Int) < (l.length : Int) by omega, Int.natCast_nonneg, if_true, l20Row_eq, Option.bind_some, wsucc (show i < 9223372036854775807 by omega)]
    unfold rowAt
    by_cases hx : rowOk (rd_T47 l (i : Int)).f0 (rd_T47 l (i : Int)).f1 (rd_T47 l (i : Int)).f2 = true
    · simp only [hx, if_true, Bool.true_and]
      by_cases h0 : 0 < i
      · simp only [show (i : Int) > 0 by omega, if_true, pred_cast h0 (show i < 9223372036854775807 by omega), Int.natCast_nonneg, show ((i - 1 : Nat) : Int) < (l.length : Int) by omega, h0, decide_true, Bool.true_and]
        by_cases hq : (rd_T47 l ((i - 1 : Nat) : Int)).f0 ≥ (rd_T47 l (i : Int)).f0
        · simp only [if_pos hq, hq, decide_true, Bool.not_true, Bool.false_and]
          exact Ev.now _
        · simp only [if_neg hq, hq, decide_false, Bool.not_false, Bool.true_and]
          exact ih
      · simp only [show ¬ (i : Int) > 0 by omega, if_false, h0, decide_false, Bool.false_and, Bool.not_false, Bool.true_and]
        exact ih
    · simp only [Bool.not_eq_true] at hx
      simp only [hx, reduceCtorEq, if_false, Bool.false_and]
      exact Ev.now _
theorem impl_loop (n : Int) (l : List S47) (hl : l.length ≤ 1125899906842624) : ∀ i, i ≤ l.length → Ev (fun k => impl_BaseOk.l0 k l (l.length : Int) (i : Int) n l) (allFrom (rowAt l) l.length i && (decide (l.length ≤ 12) && decide (0 ≤ n ∧ n ≤ 100000))) := by
  refine down _ ?_ (fun i hi ih => ?_)
  · refine Ev.step (fun k => by rw [impl_BaseOk.l0]) ?_
    simp only [Int.lt_irrefl, if_false]
    rw [allFrom_end, Bool.true_and]
    by_cases h : l.length ≤ 12
    · simp only [show (l.length : Int) ≤ 12 by omega, if_true, isTime_eq, Option.bind_some, h, decide_true, Bool.true_and]
      exact Ev.now _
    · simp only [show ¬ (l.length : Int) ≤ 12 by omega, if_false, h, decide_false, Bool.false_and]
      exact Ev.now _
  · refine Ev.step (fun k => by rw [impl_BaseOk.l0]) ?_
    rw [allFrom_step _ hi]
    simp only [show (i : Int) < (l.length : Int) by omega, Int.natCast_nonneg, if_true, rowOk_eq, Option.bind_some, wsucc (show i < 9223372036854775807 by omega)]
    unfold rowAt
    by_cases hx : rowOk (rd_T47 l (i : Int)).f0 (rd_T47 l (i : Int)).f1 (rd_T47 l (i : Int)).f2 = true
    · simp only [hx, if_true, Bool.true_and]
      by_cases h0 : 0 < i
      · simp only [show (i : Int) > 0 by omega, if_true, pred_cast h0 (show i < 9223372036854775807 by omega), Int.natCast_nonneg, show ((i - 1 : Nat) : Int) < (l.length : Int) by omega, h0, decide_true, Bool.true_and]
        by_cases hq : (rd_T47 l ((i - 1 : Nat) : Int)).f0 ≥ (rd_T47 l (i : Int)).f0
        · simp only [if_pos hq, hq, decide_true, Bool.not_true, Bool.false_and]
          exact Ev.now _
        · simp only [if_neg hq, hq, decide_false, Bool.not_false, Bool.true_and]
          exact ih
      · simp only [show ¬ (i : Int) > 0 by omega, if_false, h0, decide_false, Bool.false_and, Bool.not_false, Bool.true_and]
        exact ih
    · simp only [Bool.not_eq_true] at hx
      simp only [hx, reduceCtorEq, if_false, Bool.false_and]
      exact Ev.now _
theorem spec_BaseOk (n : Int) (l : List S47) (hl : l.length ≤ 1125899906842624) : Ev (fun k => spec_BaseOk.f k n l) (baseOk n l) := by
  have no : Ev (fun k => spec_BaseOk.j0 k true n l) false := by
    refine Ev.step (fun k => by rw [spec_BaseOk.j0]) ?_
    simp only [if_true]
    exact Ev.now _
  unfold spec_BaseOk.f baseOk
  by_cases h : (l.length : Int) > 12
  · simp only [if_pos h, show ¬ l.length ≤ 12 by omega, decide_false, Bool.false_and, Bool.and_false]
    exact no
  · simp only [if_neg h, show l.length ≤ 12 by omega, decide_true, Bool.true_and, l1In_eq, Option.bind_some]
    by_cases h2 : 0 ≤ n ∧ n ≤ 100000
    · simp only [h2, and_self, decide_true, Bool.not_true, Bool.and_true]
      refine Ev.step (fun k => by rw [spec_BaseOk.j0]) ?_
      simp only [reduceCtorEq, if_false]
      exact spec_loop n l hl 0 (by omega)
    · simp only [h2, decide_false, Bool.not_false, Bool.and_false]
      exact no
theorem impl_BaseOk (n : Int) (l : List S47) (hl : l.length ≤ 1125899906842624) : Ev (fun k => impl_BaseOk.f k n l) (baseOk n l) := by
  unfold impl_BaseOk.f baseOk
  exact impl_loop n l hl 0 (by omega)
theorem toBase (n : Int) (l : List S43) (hl : l.length ≤ 8796093022208) : Ev (fun k => laws_toBase.f k n l) (n, l.map cv) := by
  unfold laws_toBase.f
  exact Ev.bind (toS l hl) (Ev.now _)
theorem eqBase (n : Int) (l : List S47) (hl : l.length < 9223372036854775807) : Ev (fun k => laws_eqBase.f k n l n l) true := by
  unfold laws_eqBase.f
  simp only [if_true]
  refine Ev.bind (eqS l hl) ?_
  simp only [if_true]
  exact Ev.now _
theorem nums_size (xs : List Int) : (strOfNums xs).size = xs.length := by simp [strOfNums, ByteArray.size]
theorem show_loop (n : Int) (l : List S47) (hl : l.length ≤ 12) : ∀ i, i ≤ l.length → ∀ s : ByteArray, s.size ≤ 18 + 28 * i → ∃ r : ByteArray, Ev (fun k => spec_ShowBase.l0 k s (i : Int) n l) r ∧ Ev (fun k => impl_ShowBase.l0 k s l (l.length : Int) (i : Int)) r := by
  refine down _ (fun s hs => ⟨s, ?_, ?_⟩) (fun i hi ih s hs => ?_)
  · refine Ev.step (fun k => by rw [spec_ShowBase.l0]) ?_
    simp only [Int.lt_irrefl, if_false]
    exact Ev.now _
  · refine Ev.step (fun k => by rw [impl_ShowBase.l0]) ?_
    simp only [Int.lt_irrefl, if_false]
    exact Ev.now _
  · obtain ⟨a, ha, sa, ia⟩ := Var.Var (rd_T47 l (i : Int)).f0
    obtain ⟨b, hb, sb, ib⟩ := Var.Var (rd_T47 l (i : Int)).f1
    obtain ⟨c, hc, sc, ic⟩ := Var.Var (rd_T47 l (i : Int)).f2
    have z0 := nums_size a
    have z1 := nums_size b
    have z2 := nums_size c
    generalize strOfNums a = a at *
    generalize strOfNums b = b at *
    generalize strOfNums c = c at *
    have y1 : (s ++ a).size = s.size + a.size := ByteArray.size_append
    have y2 : ((s ++ a) ++ b).size = s.size + a.size + b.size := by rw [ByteArray.size_append, y1]
    have y3 : (((s ++ a) ++ b) ++ c).size = s.size + a.size + b.size + c.size := by rw [ByteArray.size_append, y2]
    have e0 : (⟨#[0]⟩ : ByteArray).size = 1 := rfl
    have e1 : (⟨#[1]⟩ : ByteArray).size = 1 := rfl
    have y4 : ((((s ++ a) ++ b) ++ c) ++ (⟨#[0]⟩ : ByteArray)).size = s.size + a.size + b.size + c.size + 1 := by rw [ByteArray.size_append, y3, e0]
    have y5 : ((((s ++ a) ++ b) ++ c) ++ (⟨#[1]⟩ : ByteArray)).size = s.size + a.size + b.size + c.size + 1 := by rw [ByteArray.size_append, y3, e1]
    cases hd : (rd_T47 l (i : Int)).f3
    · obtain ⟨r, hs1, hi1⟩ := ih ((((s ++ a) ++ b) ++ c) ++ (⟨#[0]⟩ : ByteArray)) (by omega)
      refine ⟨r, ?_, ?_⟩
      · refine Ev.step (fun k => by rw [spec_ShowBase.l0]) ?_
        simp only [show (i : Int) < (l.length : Int) by omega, Int.natCast_nonneg, if_true, wsucc (show i < 9223372036854775807 by omega), hd, reduceCtorEq, if_false]
        refine Ev.bind sa ?_
        simp only [show s.size + a.size ≤ 9223372036854775807 by omega, if_true]
        refine Ev.bind sb ?_
        simp only [show (s ++ a).size + b.size ≤ 9223372036854775807 by omega, if_true]
        refine Ev.bind sc ?_
        simp only [show ((s ++ a) ++ b).size + c.size ≤ 9223372036854775807 by omega, show (((s ++ a) ++ b) ++ c).size + 1 ≤ 9223372036854775807 by omega, if_true]
        exact hs1
      · refine Ev.step (fun k => by rw [impl_ShowBase.l0]) ?_
        simp only [show (i : Int) < (l.length : Int) by omega, Int.natCast_nonneg, if_true, wsucc (show i < 9223372036854775807 by omega), hd, reduceCtorEq, if_false]
        refine Ev.bind ia ?_
        simp only [show s.size + a.size ≤ 9223372036854775807 by omega, if_true]
        refine Ev.bind ib ?_
        simp only [show (s ++ a).size + b.size ≤ 9223372036854775807 by omega, if_true]
        refine Ev.bind ic ?_
        simp only [show ((s ++ a) ++ b).size + c.size ≤ 9223372036854775807 by omega, show (((s ++ a) ++ b) ++ c).size + 1 ≤ 9223372036854775807 by omega, if_true]
        exact hi1
    · obtain ⟨r, hs1, hi1⟩ := ih ((((s ++ a) ++ b) ++ c) ++ (⟨#[1]⟩ : ByteArray)) (by omega)
      refine ⟨r, ?_, ?_⟩
      · refine Ev.step (fun k => by rw [spec_ShowBase.l0]) ?_
        simp only [show (i : Int) < (l.length : Int) by omega, Int.natCast_nonneg, if_true, wsucc (show i < 9223372036854775807 by omega), hd, if_true]
        refine Ev.bind sa ?_
        simp only [show s.size + a.size ≤ 9223372036854775807 by omega, if_true]
        refine Ev.bind sb ?_
        simp only [show (s ++ a).size + b.size ≤ 9223372036854775807 by omega, if_true]
        refine Ev.bind sc ?_
        simp only [show ((s ++ a) ++ b).size + c.size ≤ 9223372036854775807 by omega, show (((s ++ a) ++ b) ++ c).size + 1 ≤ 9223372036854775807 by omega, if_true]
        exact hs1
      · refine Ev.step (fun k => by rw [impl_ShowBase.l0]) ?_
        simp only [show (i : Int) < (l.length : Int) by omega, Int.natCast_nonneg, if_true, wsucc (show i < 9223372036854775807 by omega), hd, if_true]
        refine Ev.bind ia ?_
        simp only [show s.size + a.size ≤ 9223372036854775807 by omega, if_true]
        refine Ev.bind ib ?_
        simp only [show (s ++ a).size + b.size ≤ 9223372036854775807 by omega, if_true]
        refine Ev.bind ic ?_
        simp only [show ((s ++ a) ++ b).size + c.size ≤ 9223372036854775807 by omega, show (((s ++ a) ++ b) ++ c).size + 1 ≤ 9223372036854775807 by omega, if_true]
        exact hi1
theorem ShowBase (n : Int) (l : List S47) (hl : l.length ≤ 1125899906842624) : ∃ r, Ev (fun k => spec_ShowBase.f k n l) r ∧ Ev (fun k => impl_ShowBase.f k n l) r := by
  unfold spec_ShowBase.f impl_ShowBase.f
  by_cases hok : baseOk n l = true
  · obtain ⟨a, ha, sa, ia⟩ := Var.Var n
    obtain ⟨b, hb, sb, ib⟩ := Var.Var (l.length : Int)
    have z0 := nums_size a
    have z1 := nums_size b
    obtain ⟨r, hs, hi⟩ := show_loop n l (baseOk_len hok) 0 (by omega) (strOfNums a ++ strOfNums b) (by rw [ByteArray.size_append]; omega)
    refine ⟨r, ?_, ?_⟩
    · refine Ev.bind (spec_BaseOk n l hl) ?_
      simp only [hok, if_true]
      refine Ev.bind sa ?_
      refine Ev.bind sb ?_
      simp only [show (strOfNums a).size + (strOfNums b).size ≤ 9223372036854775807 by omega, if_true]
      exact hs
    · refine Ev.bind (impl_BaseOk n l hl) ?_
      simp only [hok, if_true]
      refine Ev.bind ia ?_
      refine Ev.bind ib ?_
      simp only [show (strOfNums a).size + (strOfNums b).size ≤ 9223372036854775807 by omega, if_true]
      exact hi
  · refine ⟨⟨#[]⟩, ?_, ?_⟩
    · refine Ev.bind (spec_BaseOk n l hl) ?_
      simp only [hok, if_false]
      exact Ev.now _
    · refine Ev.bind (impl_BaseOk n l hl) ?_
      simp only [hok, if_false]
      exact Ev.now _
end Go.Proofs.Ytokicdkdllndpaa.Bases

set_option linter.unusedSimpArgs false
namespace Go.Proofs.Ytokicdkdllndpaa.Pure
open Go.RowKit Go.Proofs.Ytokicdkdllndpaa.XA Go.Proofs.YtokicdkdllndpaaW.PrintWords Go.Proofs.Ytokicdkdllndpaa.K Go.Proofs.Ytokicdkdllndpaa.RRowS Go.Proofs.Ytokicdkdllndpaa.Bases

theorem FnExactShowBase : laws_FnExactShowBase.Pure := by
  intro n l
  intros
  rename_i hm
  refine Ev.rounds (g := fun k => laws_FnExactShowBase.f k n l) ?_
  unfold laws_FnExactShowBase.f laws_szBase.f laws_szRowS.f
  have hm8 : l.length ≤ 9223372036854775807 := by have := hm.1; unfold maxLen at this; omega
  rw [w64 (by omega) (by omega)]
  by_cases h : (1048576 : Int) - (l.length : Int) < 0
  · simp only [h, if_true, Option.bind_some, show (-1 : Int) < 0 by omega]
    exact Ev.now _
  · simp only [h, if_false, Option.bind_some]
    have hl : (l.map cv).length ≤ 1048576 := by rw [List.length_map]; omega
    obtain ⟨r, hs, hi⟩ := ShowBase n (l.map cv) (by omega)
    refine Ev.bind (toBase n l (by omega)) ?_
    refine Ev.bind hs ?_
    refine Ev.bind (toBase n l (by omega)) ?_
    refine Ev.bind hi ?_
    simp only [bne_self_eq_false, reduceCtorEq, if_false, if_true]
    refine Ev.bind (toBase n l (by omega)) ?_
    refine Ev.bind (eqBase n (l.map cv) (by omega)) ?_
    simp only [if_true]
    exact Ev.now _
end Go.Proofs.Ytokicdkdllndpaa.Pure

namespace Go.Proofs.Ytokicdkdllndpaa.fnExactShowBase
open Go.ChangeShapes Go.WideShapes Go.ChangeAt Go.RowKit
open Go.ChangeMaps (open_string shut_string)
set_option linter.unusedVariables false
theorem own : ownKnob Try.prog.godebug = none := by kernel_rfl
theorem laidOut : laidOutB Try.prog = true := by kernel_rfl
set_option maxRecDepth 100000 in
theorem lifted (os : Os) (started : os.Started) (H : Type) (enc : TypeId × Value → H) :
    ReturnsInHanded {} Try.checked os 4 .any (Rows.fnExactShowBaseSpec.pre6 enc Try.prog Try.f4 Rows.fnExactShowBaseRow.domain false) (Rows.fnExactShowBaseSpec.post enc Try.prog Try.f4 false true false false) := by
  refine returnsInHanded_of_change_sized (C := Try.checked) own started (by kernel_rfl) Try.func4
    (ChangeSpec.witness6 (enc := enc) (C := Try.checked) false ⟨#[], #[.agg #[.int .i64 0, .slice none 0 0]], []⟩ 8 (by kernel_rfl) (by kernel_rfl) (by kernel_rfl) (by kernel_rfl)) ?_
  intro W base args ds gs before hval0 hW hcnd hsz0 _
  have hval : ∀ (j : Nat) t v, Try.f4.params[j]? = some t → args[j]? = some v → Value.okWide Try.prog W .any base t v := hval0
  have hW' := hW
  obtain ⟨p, q, hA0, hV, rfl, hfz, hnd⟩ := hW
  have hA : DataW.TrodAll enc Try.prog W 0 (fun _ => true) true Try.f4.params.toList args.toList ds p := hA0
  rw [Try.params4] at hA hval
  obtain ⟨v0, vs0, d0, ds0, p0, q0, hargs, rfl, rfl, h0, r0⟩ := trodAll_cons hA
  obtain ⟨rfl, rfl, rfl⟩ := trodAll_nil r0
  obtain rfl : args = #[v0] := by cases args; simp_all
  obtain ⟨rfl, rfl⟩ := trodVars_none hV
  have k0 := h0
  have lt0 : ∀ x ∈ p0, x.block < W.heap.size := by obtain ⟨m, hm⟩ := k0; exact DataW.trod_lt m _ _ _ hm
  obtain ⟨cs0, rfl, _⟩ := okWide_struct Try.underlying24 (hval 0 24 v0 rfl rfl)
  obtain ⟨z0, hK0, ok0⟩ := O.Opens.of_trod XA.op24 h0
  obtain ⟨_, _, hcs0, rfl, ⟨A0_1, c0_1, rfl, hl0_1, hC0_1⟩⟩ := hK0
  obtain rfl : cs0 = #[.int .i64 z0.f0, .slice A0_1 z0.f1.length c0_1] := by cases cs0; simpa [Value.cells] using hcs0
  clear hA0 hval0 hsz0
  refine (XA.laws_FnExactShowBase.walk Pure.FnExactShowBase z0.f0 A0_1 c0_1 z0.f1 W hC0_1 hl0_1 (ok0.1) (ok0.2)).mono fun e W' ⟨he, bel⟩ => ?_
  subst he
  exact ⟨_, rfl, _, _, _, [], _, [], hW', trodAll_mk1 (shut_bool Try.underlying4 _), (trodAll_cons_mk (Below.trod laidOut (by kernel_rfl) (of_decide_eq_true (by kernel_rfl)) k0 bel lt0) trodAll_mk0), rfl, bel.frame _, fun h => by cases h⟩
theorem over : Rows.fnExactShowBaseRow.holds Try.pinned (OpenSpec.ofChange Rows.fnExactShowBaseSpec) :=
  OpenClaim.holds_of_wide 4 Try.f4 rfl rfl rfl rfl rfl rfl rfl ⟨rfl, rfl, rfl, rfl, rfl⟩ rfl rfl rfl rfl rfl (by kernel_rfl) Try.func4 (by kernel_rfl)
    (of_decide_eq_true (by kernel_rfl)) (by unfold Func.isWrapper; first | (rw [if_pos (by decide +kernel)]; kernel_rfl) | (rw [if_neg (by decide +kernel)]; exact ⟨rfl, rfl⟩))
    (fun os started H enc _ => lifted os started H enc)
theorem proved : Rows.FnExactShowBaseSaid := over
#print axioms proved
end Go.Proofs.Ytokicdkdllndpaa.fnExactShowBase
namespace Go.Proofs.Ytokicdkdllndpaa
/-- The row, under a short name, for the claim. -/
theorem fnExactShowBase_holds : Rows.FnExactShowBaseSaid := fnExactShowBase.proved
end Go.Proofs.Ytokicdkdllndpaa
