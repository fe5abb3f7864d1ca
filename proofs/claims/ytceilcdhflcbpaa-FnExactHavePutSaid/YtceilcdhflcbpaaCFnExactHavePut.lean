/- The program's HavePut answers what the reference's answers, for every list of tickets held and every ticket, leaves the list as it was, and its answer is nobody else's memory. Conditions: none beside those of the given row. -/
import Derived.Test.YtceilcdhflcbpaaXA0
import Derived.Test.YtceilcdhflcbpaaXAf45
import Derived.Test.YtceilcdhflcbpaaXAf48
import Derived.Test.YtceilcdhflcbpaaXAf75
import Derived.Test.YtceilcdhflcbpaaXAf11
import Derived.Test.YtceilcdhflcbpaaXAf13
import Derived.Test.YtceilcdhflcbpaaXAf16
import Derived.Test.YtceilcdhflcbpaaXAf19
import Derived.Test.YtceilcdhflcbpaaXAf20
import Derived.Test.YtceilcdhflcbpaaXAf22
import Derived.Test.YtceilcdhflcbpaaXAf10
import Derived.Test.YtceilcdhflcbpaaXAf12
import Derived.Test.YtceilcdhflcbpaaXAf40
import Derived.Test.YtceilcdhflcbpaaXAf41
import Derived.Test.YtceilcdhflcbpaaXAf44
import Derived.Test.YtceilcdhflcbpaaXAf74
import Derived.Test.YtceilcdhflcbpaaXAv1
import Derived.Test.YtceilcdhflcbpaaXAv2
import Derived.Test.YtceilcdhflcbpaaXAv3
import Derived.Test.YtceilcdhflcbpaaXAf46
import Derived.Test.YtceilcdhflcbpaaXAf47
import Derived.Test.YtceilcdhflcbpaaXAf14
import Derived.Test.YtceilcdhflcbpaaXAf15
import Derived.Test.YtceilcdhflcbpaaXAf21
import Derived.Test.YtceilcdhflcbpaaXAf23
import Derived.Test.YtceilcdhflcbpaaXAf49
import Derived.Test.YtceilcdhflcbpaaXAf6
import Derived.Test.YtceilcdhflcbpaaXAf9
import Derived.Test.YtceilcdhflcbpaaRows
import Derived.WalkKit
import Derived.ProofKit
import Derived.OpenShut
import Derived.ShutString
import Derived.ChangeOld
import Derived.Below
import Derived.SizedLaws
import Derived.Carry
/- Small lemmas on loops with rounds, on numbers that wrap round and on lists: what all pure laws of this seat use. -/
namespace Go.Proofs.Ytceilcdhflcbpaa.K
open Go.RowKit Go.Proofs.YtceilcdhflcbpaaW.PrintWords

theorem w64 {n : Int} (h0 : -9223372036854775808 ≤ n) (h1 : n ≤ 9223372036854775807) : wrap64 n = n := by
  unfold wrap64
  omega
theorem wsucc {i : Nat} (h : i < 9223372036854775807) : wrap64 ((i : Int) + 1) = ((i + 1 : Nat) : Int) := by
  unfold wrap64
  omega
theorem wadd1 {i : Int} (h0 : -1 ≤ i) (h : i < 9223372036854775807) : wrap64 (i + 1) = i + 1 := by
  unfold wrap64
  omega
theorem rdn (l : List Int) (i : Nat) : rd l (i : Int) = l.getD i 0 := rfl
theorem rd_get {l : List Int} {i : Nat} (h : i < l.length) : rd l (i : Int) = l[i] := by
  rw [rdn, List.getD_eq_getElem?_getD, List.getElem?_eq_getElem h]
  rfl
theorem wf_rd {l : List Int} (hw : ∀ x ∈ l, (Lit.int .i64 x).wf = true) (i : Int) : -9223372036854775808 ≤ rd l i ∧ rd l i ≤ 9223372036854775807 := by
  unfold rd
  rw [List.getD_eq_getElem?_getD]
  rcases h : l[i.toNat]? with _ | x
  · simp
  · have := hw x (List.mem_of_getElem? h)
    simp [Lit.wf, IntKind.min, IntKind.max, IntKind.signed, IntKind.bits] at this
    simpa using this
theorem wf_int {x : Int} (h : (Lit.int .i64 x).wf = true) : -9223372036854775808 ≤ x ∧ x ≤ 9223372036854775807 := by
  simp [Lit.wf, IntKind.min, IntKind.max, IntKind.signed, IntKind.bits] at h
  exact h
/-- From the last round back to the first. -/
theorem down {P : Nat → Prop} (n : Nat) (hend : P n) (hstep : ∀ i, i < n → P (i + 1) → P i) : ∀ i, i ≤ n → P i := by
  intro i hi
  obtain ⟨d, rfl⟩ : ∃ d, n = i + d := ⟨n - i, by omega⟩
  clear hi
  induction d generalizing i with
  | zero => exact hend
  | succ d ih => exact hstep i (by omega) (ih (i + 1) (by rw [show i + 1 + d = i + (d + 1) by omega]; exact hend) (fun j hj => hstep j (by omega)))
theorem evr {α : Type} {g : Nat → Option α} {r r' : α} (h : Ev g r) (e : r = r') : Ev g r' := e ▸ h
theorem evc {α : Type} {o : Option α} {r : α} (h : o = some r) : Ev (fun _ => o) r := ⟨0, fun _ _ => h⟩
theorem evu {α : Type} {g : Nat → Option α} {r r' : α} (h : Ev g r) (h' : Ev g r') : r = r' := by
  obtain ⟨K, h⟩ := h
  obtain ⟨K', h'⟩ := h'
  have h1 := h (max K K') (by omega)
  have h2 := h' (max K K') (by omega)
  rw [h1] at h2
  exact Option.some.inj h2
theorem drop_eq_iff {α : Type} {a b : List α} {i : Nat} (hi : i < a.length) (hj : i < b.length) : a.drop i = b.drop i ↔ a[i] = b[i] ∧ a.drop (i + 1) = b.drop (i + 1) := by
  rw [List.drop_eq_getElem_cons hi, List.drop_eq_getElem_cons hj, List.cons.injEq]
end Go.Proofs.Ytceilcdhflcbpaa.K

/- A test of each place of a list, from one on. -/
namespace Go.Proofs.Ytceilcdhflcbpaa.K
/-- A test of each place from i on. -/
def allFrom (q : Nat → Bool) (n i : Nat) : Bool := (List.range' i (n - i)).all q
theorem allFrom_end (q : Nat → Bool) (n : Nat) : allFrom q n n = true := by simp [allFrom]
theorem allFrom_step (q : Nat → Bool) {n i : Nat} (h : i < n) : allFrom q n i = (q i && allFrom q n (i + 1)) := by
  unfold allFrom
  rw [show n - i = (n - (i + 1)) + 1 by omega, List.range'_succ, List.all_cons]
theorem allFrom_iff (q : Nat → Bool) (n i : Nat) : allFrom q n i = true ↔ ∀ j, i ≤ j → j < n → q j = true := by
  unfold allFrom
  rw [List.all_eq_true]
  refine ⟨fun h j h1 h2 => h j (List.mem_range'_1.2 (by omega)), fun h j hj => ?_⟩
  have := List.mem_range'_1.1 hj
  exact h j (by omega) (by omega)
theorem allFrom_congr {q q' : Nat → Bool} {n : Nat} (h : ∀ j, j < n → q j = q' j) (i : Nat) : allFrom q n i = allFrom q' n i := by
  rw [Bool.eq_iff_iff, allFrom_iff, allFrom_iff]
  exact ⟨fun k j h1 h2 => (h j h2) ▸ k j h1 h2, fun k j h1 h2 => (h j h2).symm ▸ k j h1 h2⟩
end Go.Proofs.Ytceilcdhflcbpaa.K

/- Tests of bounds, in the program and in the reference. -/
namespace Go.Proofs.Ytceilcdhflcbpaa.Base
open Go.RowKit Go.Proofs.YtceilcdhflcbpaaW.PrintWords Go.Proofs.YtceilcdhflcbpaaW.PrintMore Go.Proofs.Ytceilcdhflcbpaa.K Go.Proofs.Ytceilcdhflcbpaa.XA

theorem l1In_eq (a b c : Int) : spec_l1In.f a b c = some (decide (b ≤ a ∧ a ≤ c)) := by
  unfold spec_l1In.f
  by_cases h : a ≥ b
  · rw [if_pos h]
    simp [show b ≤ a from h]
  · rw [if_neg h]
    simp [show ¬ b ≤ a from h]
theorem within_eq (a b c : Int) : impl_within.f a b c = some (decide (b ≤ a ∧ a ≤ c)) := by
  unfold impl_within.f
  by_cases h : a ≥ b
  · rw [if_pos h]
    simp [show b ≤ a from h]
  · rw [if_neg h]
    simp [show ¬ b ≤ a from h]
theorem isKey_eq (a : Int) : impl_isKey.f a = some (decide (1 ≤ a ∧ a ≤ 1000000)) := by
  unfold impl_isKey.f
  rw [within_eq]
  rfl
end Go.Proofs.Ytceilcdhflcbpaa.Base

/- What the laws' helpers on lists of records come to (printed by wip/rowsgen.py): a copy is the list, a list is like itself, marks are found again. -/
set_option linter.unusedSimpArgs false
namespace Go.Proofs.Ytceilcdhflcbpaa.RHaveS
open Go.RowKit Go.Proofs.YtceilcdhflcbpaaW.PrintWords Go.Proofs.YtceilcdhflcbpaaW.PrintMore Go.Proofs.Ytceilcdhflcbpaa.K Go.Proofs.Ytceilcdhflcbpaa.XA

theorem rdA {l : List S38} {i : Nat} (h : i < l.length) : rd_T38 l (i : Int) = l[i] := by
  unfold rd_T38
  rw [Int.toNat_natCast, List.getD_eq_getElem?_getD, List.getElem?_eq_getElem h]
  rfl
theorem rdB {l : List S30} {i : Nat} (h : i < l.length) : rd_T30 l (i : Int) = l[i] := by
  unfold rd_T30
  rw [Int.toNat_natCast, List.getD_eq_getElem?_getD, List.getElem?_eq_getElem h]
  rfl
def cv (x : S38) : S30 := ⟨x.f0, x.f1, x.f2, x.f3, x.f4⟩
theorem toS (l : List S38) (hl : l.length ≤ 7036874417766) : Ev (fun k => laws_toHaveS.f k l) (l.map cv) := by
  unfold laws_toHaveS.f
  simp only [Int.natCast_nonneg, Int.toNat_natCast, hl, if_true]
  have key : ∀ i, i ≤ l.length → ∀ acc : List S30, acc.length = l.length → Ev (fun k => laws_toHaveS.l0 k l acc (i : Int)) (acc.take i ++ (l.map cv).drop i) := by
    refine down _ (fun acc ha => ?_) (fun i hi ih acc ha => ?_)
    · refine Ev.step (fun k => by rw [laws_toHaveS.l0]) ?_
      simp only [Int.lt_irrefl, if_false]
      exact evr (Ev.now _) (by simp [← ha])
    · refine Ev.step (fun k => by rw [laws_toHaveS.l0]) ?_
      have h1 : (i : Int) < (l.length : Int) := by omega
      have h2 : (i : Int) < (acc.length : Int) := by omega
      simp only [h1, h2, Int.natCast_nonneg, if_true, wsucc (show i < 9223372036854775807 by omega), Int.toNat_natCast, rdA hi, laws_toHave.f, Option.bind_some]
      refine evr (ih (acc.set i (cv l[i])) (by simp [ha])) ?_
      rw [List.take_succ_eq_append_getElem (by simp; omega), List.getElem_set_self, List.take_set_of_le (by omega), List.append_assoc, List.drop_eq_getElem_cons (l := l.map cv) (i := i) (by simpa using hi), List.getElem_map]
      rfl
  refine evr (key 0 (by omega) _ (by simp)) (by simp)
theorem eqS (a : List S30) (hb : a.length < 9223372036854775807) : Ev (fun k => laws_eqHaveS.f k a a) true := by
  unfold laws_eqHaveS.f
  simp only [if_true]
  have key : ∀ i, i ≤ a.length → Ev (fun k => laws_eqHaveS.l0 k a a (i : Int)) true := by
    refine down _ ?_ (fun i hi ih => ?_)
    · refine Ev.step (fun k => by rw [laws_eqHaveS.l0]) ?_
      simp only [Int.lt_irrefl, if_false]
      exact Ev.now _
    · refine Ev.step (fun k => by rw [laws_eqHaveS.l0]) ?_
      simp only [show (i : Int) < (a.length : Int) by omega, Int.natCast_nonneg, if_true, wsucc (show i < 9223372036854775807 by omega), laws_eqHave.f, Option.bind_some, decide_true, beq_self_eq_true]
      exact ih
  exact key 0 (by omega)
def mk (k : Int) (i : Nat) : S30 := ⟨k + ((5 * i + 0 : Nat) : Int), k + ((5 * i + 1 : Nat) : Int), k + ((5 * i + 2 : Nat) : Int), k + ((5 * i + 3 : Nat) : Int), k + ((5 * i + 4 : Nat) : Int)⟩
def marks (k : Int) (n : Nat) : List S30 := (List.range n).map (mk k)
theorem marks_length (k : Int) (n : Nat) : (marks k n).length = n := by simp [marks]
theorem marks_get (k : Int) (n i : Nat) (h : i < n) : (marks k n)[i]'(by rw [marks_length]; exact h) = mk k i := by simp [marks]
theorem setget (l : List S30) (i : Nat) (x : S30) (h : i < l.length) : rd_T30 (l.set i x) (i : Int) = x := by
  rw [rdB (by simpa using h)]
  simp
theorem markS (l : List S30) (m : Int) (hl : l.length ≤ 1125899906842) (h0 : 0 ≤ m) (h1 : m ≤ 1125899906842624) : Ev (fun k => laws_markHaveS.f k l m) (m + ((5 * l.length : Nat) : Int), marks m l.length) := by
  unfold laws_markHaveS.f
  have key : ∀ i, i ≤ l.length → ∀ acc : List S30, acc.length = l.length → acc.take i = (marks m l.length).take i → Ev (fun k => laws_markHaveS.l0 k acc (m + ((5 * i : Nat) : Int)) (i : Int)) (m + ((5 * l.length : Nat) : Int), marks m l.length) := by
    refine down _ (fun acc ha hp => ?_) (fun i hi ih acc ha hp => ?_)
    · refine Ev.step (fun k => by rw [laws_markHaveS.l0]) ?_
      simp only [ha, Int.lt_irrefl, if_false]
      refine evr (Ev.now _) ?_
      rw [List.take_of_length_le (by omega), List.take_of_length_le (by rw [marks_length]; omega)] at hp
      rw [hp]
    · refine Ev.step (fun k => by rw [laws_markHaveS.l0]) ?_
      have h2 : (i : Int) < (acc.length : Int) := by omega
      have h3 : i < acc.length := by omega
      have s : ∀ n : Nat, n ≤ 5 * l.length → wrap64 (m + (n : Int) + 1) = m + ((n + 1 : Nat) : Int) := fun n hn => by rw [w64 (by omega) (by omega)]; omega
      simp only [h2, Int.natCast_nonneg, if_true, wsucc (show i < 9223372036854775807 by omega), Int.toNat_natCast, Option.bind_some, setget _ _ _ (show i < acc.length from h3), List.set_set, setget]
      simp only [s (5 * i) (by omega), s (5 * i + 1) (by omega), s (5 * i + 2) (by omega), s (5 * i + 3) (by omega), s (5 * i + 4) (by omega)]
      rw [show m + ((5 * i + 4 + 1 : Nat) : Int) = m + ((5 * (i + 1) : Nat) : Int) by omega]
      refine ih _ (by simp [ha]) ?_
      rw [List.take_succ_eq_append_getElem (by simp; omega), List.take_succ_eq_append_getElem (by rw [marks_length]; omega), List.getElem_set_self, List.take_set_of_le (by omega), hp, marks_get _ _ _ hi]
      rfl
  have := key 0 (by omega) l rfl (by simp)
  simpa using this
theorem heldS (l : List S30) (m : Int) (hl : l.length ≤ 1125899906842) (h0 : 0 ≤ m) (h1 : m ≤ 1125899906842624) (he : l = marks m l.length) : Ev (fun k => laws_heldHaveS.f k l m) (m + ((5 * l.length : Nat) : Int)) := by
  unfold laws_heldHaveS.f
  have key : ∀ i, i ≤ l.length → Ev (fun k => laws_heldHaveS.l0 k l (m + ((5 * i : Nat) : Int)) (i : Int)) (m + ((5 * l.length : Nat) : Int)) := by
    refine down _ ?_ (fun i hi ih => ?_)
    · refine Ev.step (fun k => by rw [laws_heldHaveS.l0]) ?_
      simp only [Int.lt_irrefl, if_false]
      exact Ev.now _
    · refine Ev.step (fun k => by rw [laws_heldHaveS.l0]) ?_
      have h2 : (i : Int) < (l.length : Int) := by omega
      have h3 : l[i] = mk m i := by
        have := marks_get m l.length i hi
        simp only [← he] at this
        exact this
      have s : ∀ n : Nat, n ≤ 5 * l.length → wrap64 (m + (n : Int) + 1) = m + ((n + 1 : Nat) : Int) := fun n hn => by rw [w64 (by omega) (by omega)]; omega
      simp only [h2, Int.natCast_nonneg, if_true, wsucc (show i < 9223372036854775807 by omega), rdB hi, h3, mk, Nat.add_zero]
      simp only [s (5 * i) (by omega), s (5 * i + 1) (by omega), s (5 * i + 2) (by omega), s (5 * i + 3) (by omega), s (5 * i + 4) (by omega), if_true]
      rw [show m + ((5 * i + 4 + 1 : Nat) : Int) = m + ((5 * (i + 1) : Nat) : Int) by omega]
      exact ih
  have := key 0 (by omega)
  simpa using this
end Go.Proofs.Ytceilcdhflcbpaa.RHaveS

/- What the functions on tickets held come to, in the program and in the reference alike. -/
set_option linter.unusedSimpArgs false
namespace Go.Proofs.Ytceilcdhflcbpaa.Haves
open Go.RowKit Go.Proofs.YtceilcdhflcbpaaW.PrintWords Go.Proofs.YtceilcdhflcbpaaW.PrintMore Go.Proofs.Ytceilcdhflcbpaa.K Go.Proofs.Ytceilcdhflcbpaa.XA Go.Proofs.Ytceilcdhflcbpaa.Base Go.Proofs.Ytceilcdhflcbpaa.RHaveS

def haveOk (a b c d e : Int) : Bool := decide (0 ≤ a ∧ a ≤ 99) && (decide (b ≥ 0) && (decide (b ≤ c ∧ c ≤ 100000) && (decide (0 ≤ d ∧ d ≤ 255) && decide (1 ≤ e ∧ e ≤ 1000000))))
theorem flagsOk_s (a : Int) : spec_FlagsOk.f a = some (decide (0 ≤ a ∧ a ≤ 255)) := by
  unfold spec_FlagsOk.f
  rw [l1In_eq]
  rfl
theorem flagsOk_i (a : Int) : impl_FlagsOk.f a = some (decide (0 ≤ a ∧ a ≤ 255)) := by
  unfold impl_FlagsOk.f
  rw [within_eq]
  rfl
theorem l26Ok_eq (a b c d e : Int) : spec_l26Ok.f a b c d e = some (haveOk a b c d e) := by
  unfold spec_l26Ok.f haveOk
  simp only [l1In_eq, flagsOk_s, Option.bind_some]
  by_cases h1 : 0 ≤ a ∧ a ≤ 99 <;> by_cases h2 : b ≥ 0 <;> by_cases h3 : b ≤ c ∧ c ≤ 100000 <;> by_cases h4 : 0 ≤ d ∧ d ≤ 255 <;> simp only [h1, h2, h3, h4, decide_true, decide_false, if_true, if_false, Bool.true_and, Bool.false_and, Bool.and_false, reduceCtorEq, and_self]
theorem haveOk_eq (a b c d e : Int) : impl_haveOk.f a b c d e = some (haveOk a b c d e) := by
  unfold impl_haveOk.f haveOk
  simp only [within_eq, isKey_eq, flagsOk_i, Option.bind_some]
  by_cases h1 : 0 ≤ a ∧ a ≤ 99 <;> by_cases h2 : b ≥ 0 <;> by_cases h3 : b ≤ c ∧ c ≤ 100000 <;> by_cases h4 : 0 ≤ d ∧ d ≤ 255 <;> simp only [h1, h2, h3, h4, decide_true, decide_false, if_true, if_false, Bool.true_and, Bool.false_and, Bool.and_false, reduceCtorEq, and_self]
def hv (x : S30) : Bool := haveOk x.f0 x.f1 x.f2 x.f3 x.f4
def other (l : List S30) (e : Int) (j : Nat) : Bool := !decide ((rd_T30 l (j : Int)).f4 = e)
def havesAt (l : List S30) (i : Nat) : Bool := hv (rd_T30 l (i : Int)) && allFrom (other l (rd_T30 l (i : Int)).f4) i 0
def havesOk (l : List S30) : Bool := decide (l.length ≤ 12) && allFrom (havesAt l) l.length 0
theorem havesOk_len {l : List S30} (h : havesOk l = true) : l.length ≤ 12 := by
  unfold havesOk at h
  rw [Bool.and_eq_true, decide_eq_true_eq] at h
  exact h.1

theorem spec_HavesOk (l : List S30) (hl : l.length ≤ 1125899906842624) : Ev (fun k => spec_HavesOk.f k l) (havesOk l) := by
  unfold spec_HavesOk.f havesOk
  by_cases h : (l.length : Int) > 12
  · simp only [h, if_true, show ¬ l.length ≤ 12 by omega, decide_false, Bool.false_and]
    exact Ev.now _
  · simp only [h, if_false, show l.length ≤ 12 by omega, decide_true, Bool.true_and]
    have key : ∀ i, i ≤ l.length → Ev (fun k => spec_HavesOk.l0 k l (i : Int)) (allFrom (havesAt l) l.length i) := by
      refine down _ ?_ (fun i hi ih => ?_)
      · refine Ev.step (fun k => by rw [spec_HavesOk.l0]) ?_
        simp only [Int.lt_irrefl, if_false]
        exact evr (Ev.now _) (allFrom_end _ _).symm
      · refine Ev.step (fun k => by rw [spec_HavesOk.l0]) ?_
        rw [allFrom_step _ hi]
        simp only [show (i : Int) < (l.length : Int) by omega, Int.natCast_nonneg, if_true, l26Ok_eq, Option.bind_some]
        unfold havesAt hv
        by_cases hx : haveOk (rd_T30 l i).f0 (rd_T30 l i).f1 (rd_T30 l i).f2 (rd_T30 l i).f3 (rd_T30 l i).f4 = true
        · simp only [hx, if_true, Bool.true_and]
          have inner : ∀ j, j ≤ i → Ev (fun k => spec_HavesOk.l1 k l (i : Int) (j : Int)) (allFrom (other l (rd_T30 l (i : Int)).f4) i j && allFrom (havesAt l) l.length (i + 1)) := by
            refine down _ ?_ (fun j hj ih2 => ?_)
            · refine Ev.step (fun k => by rw [spec_HavesOk.l1]) ?_
              simp only [Int.lt_irrefl, if_false, wsucc (show i < 9223372036854775807 by omega), allFrom_end, Bool.true_and]
              exact ih
            · refine Ev.step (fun k => by rw [spec_HavesOk.l1]) ?_
              rw [allFrom_step _ hj]
              simp only [show (i : Int) < (l.length : Int) by omega, show (j : Int) < (l.length : Int) by omega, show (j : Int) < (i : Int) by omega, Int.natCast_nonneg, if_true, wsucc (show j < 9223372036854775807 by omega)]
              unfold other
              by_cases he : (rd_T30 l (j : Int)).f4 = (rd_T30 l (i : Int)).f4
              · simp only [he, if_true, decide_true, Bool.not_true, Bool.false_and]
                exact Ev.now _
              · simp only [he, if_false, decide_false, Bool.not_false, Bool.true_and]
                exact ih2
          exact inner 0 (by omega)
        · simp only [Bool.not_eq_true] at hx
          simp only [hx, reduceCtorEq, if_false, Bool.false_and]
          exact Ev.now _
    exact key 0 (by omega)

theorem impl_index (l : List S30) (x : S30) (hl : l.length ≤ 1125899906842624) : Ev (fun k => impl_Have_42_43.f k l x.f0 x.f1 x.f2 x.f3 x.f4) (!allFrom (other l x.f4) l.length 0) := by
  unfold impl_Have_42_43.f impl_Have_76_43.f
  have key : ∀ i, i ≤ l.length → ∃ v, Ev (fun k => impl_Have_76_43.l0 k l (l.length : Int) (i : Int) x.f0 x.f1 x.f2 x.f3 x.f4) v ∧ decide (v ≥ 0) = !allFrom (other l x.f4) l.length i := by
    refine down _ ?_ (fun i hi ih => ?_)
    · refine ⟨-1, ?_, by rw [allFrom_end]; rfl⟩
      refine Ev.step (fun k => by rw [impl_Have_76_43.l0]) ?_
      simp only [Int.lt_irrefl, if_false]
      exact Ev.now _
    · obtain ⟨v, hv, hd⟩ := ih
      by_cases he : (rd_T30 l (i : Int)).f4 = x.f4
      · refine ⟨i, ?_, ?_⟩
        · refine Ev.step (fun k => by rw [impl_Have_76_43.l0]) ?_
          simp only [show (i : Int) < (l.length : Int) by omega, Int.natCast_nonneg, if_true, impl_HavesOk_1_c.f, Option.bind_some, he, beq_self_eq_true]
          exact Ev.now _
        · rw [allFrom_step _ hi]
          simp [other, he]
      · refine ⟨v, ?_, ?_⟩
        · refine Ev.step (fun k => by rw [impl_Have_76_43.l0]) ?_
          simp only [show (i : Int) < (l.length : Int) by omega, Int.natCast_nonneg, if_true, impl_HavesOk_1_c.f, Option.bind_some, he, beq_iff_eq, if_false, wsucc (show i < 9223372036854775807 by omega)]
          exact hv
        · rw [allFrom_step _ hi, hd]
          simp [other, he]
  obtain ⟨v, hv, hd⟩ := key 0 (by omega)
  exact evr (Ev.bind hv (Ev.now _)) hd
theorem other_take (l : List S30) (e : Int) (i : Nat) (hi : i ≤ l.length) : allFrom (other (l.take i) e) (l.take i).length 0 = allFrom (other l e) i 0 := by
  rw [List.length_take, Nat.min_eq_left hi]
  refine allFrom_congr (fun j hj => ?_) 0
  unfold other
  rw [rdB (by rw [List.length_take]; omega), rdB (by omega), List.getElem_take]
theorem impl_HavesOk (l : List S30) (hl : l.length ≤ 1125899906842624) : Ev (fun k => impl_HavesOk.f k l) (havesOk l) := by
  unfold impl_HavesOk.f havesOk
  have key : ∀ i, i ≤ l.length → Ev (fun k => impl_HavesOk.l0 k l l (l.length : Int) (i : Int)) (decide (l.length ≤ 12) && allFrom (havesAt l) l.length i) := by
    refine down _ ?_ (fun i hi ih => ?_)
    · refine Ev.step (fun k => by rw [impl_HavesOk.l0]) ?_
      simp only [Int.lt_irrefl, if_false, allFrom_end, Bool.and_true]
      exact evr (Ev.now _) (decide_eq_decide.2 (by omega))
    · refine Ev.step (fun k => by rw [impl_HavesOk.l0]) ?_
      rw [allFrom_step _ hi]
      simp only [show (i : Int) < (l.length : Int) by omega, show (i : Int) ≤ (l.length : Int) by omega, Int.natCast_nonneg, Int.toNat_natCast, if_true, haveOk_eq, Option.bind_some, wsucc (show i < 9223372036854775807 by omega)]
      unfold havesAt hv
      by_cases hx : haveOk (rd_T30 l i).f0 (rd_T30 l i).f1 (rd_T30 l i).f2 (rd_T30 l i).f3 (rd_T30 l i).f4 = true
      · simp only [hx, if_true, Bool.true_and]
        refine Ev.bind (impl_index (l.take i) (rd_T30 l i) (by rw [List.length_take]; omega)) ?_
        rw [other_take l _ i (by omega)]
        by_cases ho : allFrom (other l (rd_T30 l (i : Int)).f4) i 0 = true
        · simp only [ho, Bool.not_true, reduceCtorEq, if_false, Bool.true_and]
          exact ih
        · simp only [Bool.not_eq_true] at ho
          simp only [ho, Bool.not_false, if_true, Bool.false_and, Bool.and_false]
          exact Ev.now _
      · simp only [Bool.not_eq_true] at hx
        simp only [hx, reduceCtorEq, if_false, Bool.false_and, Bool.and_false]
        exact Ev.now _
  exact key 0 (by omega)
end Go.Proofs.Ytceilcdhflcbpaa.Haves

/- The bits of small numbers. -/
namespace Go.Proofs.Ytceilcdhflcbpaa.K
open Go.RowKit Go.Proofs.YtceilcdhflcbpaaW.PrintWords

theorem i64_small (n : Nat) (h : n < 9223372036854775808) : IntKind.i64.wrap (n : Int) = (n : Int) := by
  simp [IntKind.wrap, IntKind.bits, IntKind.signed]
  omega
theorem ofInt_nat (a : Nat) (ha : a < 9223372036854775808) : (BitVec.ofInt 64 (a : Int)).toNat = a := by
  rw [BitVec.ofInt_natCast, BitVec.toNat_ofNat]
  exact Nat.mod_eq_of_lt (by omega)
theorem bits_and_nat (a b : Nat) (ha : a < 9223372036854775808) (hb : b < 9223372036854775808) : Go.bits .and .i64 (a : Int) (b : Int) = ((a &&& b : Nat) : Int) := by
  have hx : a &&& b ≤ a := Nat.and_le_left
  show IntKind.i64.wrap ((BitVec.ofInt 64 (a : Int) &&& BitVec.ofInt 64 (b : Int)).toNat : Int) = _
  rw [BitVec.toNat_and, ofInt_nat a ha, ofInt_nat b hb, i64_small _ (by omega)]
/-- What '& m' leaves, of any number. -/
theorem bits_and_le (x : Int) (m : Nat) (hm : m < 9223372036854775808) : 0 ≤ Go.bits .and .i64 x (m : Int) ∧ Go.bits .and .i64 x (m : Int) ≤ (m : Int) := by
  have hx : (BitVec.ofInt 64 x).toNat &&& m ≤ m := Nat.and_le_right
  have h : Go.bits .and .i64 x (m : Int) = (((BitVec.ofInt 64 x).toNat &&& m : Nat) : Int) := by
    show IntKind.i64.wrap ((BitVec.ofInt 64 x &&& BitVec.ofInt 64 (m : Int)).toNat : Int) = _
    rw [BitVec.toNat_and, ofInt_nat m hm, i64_small _ (by omega)]
  rw [h]
  omega
end Go.Proofs.Ytceilcdhflcbpaa.K

/- Flags: what a flag's test by division says, and what '&' and '&^' say, of small numbers. -/
set_option linter.unusedSimpArgs false
namespace Go.Proofs.Ytceilcdhflcbpaa.BitsF
open Go.RowKit Go.Proofs.YtceilcdhflcbpaaW.PrintWords Go.Proofs.YtceilcdhflcbpaaW.PrintMore Go.Proofs.Ytceilcdhflcbpaa.K Go.Proofs.Ytceilcdhflcbpaa.XA

theorem has_eq (n j : Nat) (hn : n < 4611686018427387904) : spec_l15Has.f (n : Int) ((2 ^ j : Nat) : Int) = some (n.testBit j) := by
  have hp : 0 < 2 ^ j := Nat.two_pow_pos j
  unfold spec_l15Has.f
  rw [if_neg (by omega)]
  have hd : n / 2 ^ j ≤ n := Nat.div_le_self _ _
  rw [show Int.tdiv (n : Int) ((2 ^ j : Nat) : Int) = ((n / 2 ^ j : Nat) : Int) from rfl, Nat.testBit_eq_decide_div_mod_eq]
  generalize n / 2 ^ j = q at hd ⊢
  rw [w64 (by omega) (by omega), show Int.tmod (q : Int) 2 = ((q % 2 : Nat) : Int) from rfl]
  congr 1
  rw [Bool.eq_iff_iff, beq_iff_eq, decide_eq_true_eq]
  omega
/-- Of m's flags below b, has n all? -/
def under (m n b : Nat) : Bool := allFrom (fun j => !m.testBit j || n.testBit j) b 0
theorem small_bit {n j : Nat} (hn : n < 256) (hj : 8 ≤ j) : n.testBit j = false :=
  Nat.testBit_lt_two_pow (Nat.lt_of_lt_of_le hn (by rw [show (256 : Nat) = 2 ^ 8 from rfl]; exact Nat.pow_le_pow_right (by omega) hj))
theorem and_eq_iff {n m : Nat} (hm : m < 256) : (n &&& m = m) ↔ under m n 8 = true := by
  unfold under
  rw [allFrom_iff]
  refine ⟨fun h j _ _ => ?_, fun h => Nat.eq_of_testBit_eq (fun j => ?_)⟩
  · have := congrArg (fun z => z.testBit j) h
    simp only [Nat.testBit_and] at this
    cases h1 : m.testBit j <;> cases h2 : n.testBit j <;> simp_all
  · rw [Nat.testBit_and]
    by_cases hj : j < 8
    · have := h j (by omega) hj
      cases h1 : m.testBit j <;> cases h2 : n.testBit j <;> simp_all
    · rw [small_bit hm (by omega)]
      simp
theorem all_eq (m n : Nat) (hm : m < 256) (hn : n < 256) : Ev (fun k => spec_l26All.f k (m : Int) (n : Int)) (under m n 8) := by
  unfold spec_l26All.f under
  have key : ∀ i : Nat, i ≤ 8 → Ev (fun k => spec_l26All.l0 k (m : Int) (n : Int) ((2 ^ i : Nat) : Int) (i : Int)) (allFrom (fun j => !m.testBit j || n.testBit j) 8 i) := by
    refine down _ ?_ (fun i hi ih => ?_)
    · refine Ev.step (fun k => by rw [spec_l26All.l0]) ?_
      simp only [show ¬ (((8 : Nat) : Int) < 8) by omega, if_false]
      exact evr (Ev.now _) (allFrom_end _ _).symm
    · refine Ev.step (fun k => by rw [spec_l26All.l0]) ?_
      rw [allFrom_step _ hi]
      have hp : 2 ^ i ≤ 2 ^ 8 := Nat.pow_le_pow_right (by omega) (by omega)
      have hw : wrap64 (((2 ^ i : Nat) : Int) * 2) = ((2 ^ (i + 1) : Nat) : Int) := by
        rw [Nat.pow_succ]
        generalize 2 ^ i = q at hp ⊢
        rw [w64 (by omega) (by omega)]
        omega
      simp only [show (i : Int) < 8 by omega, if_true, has_eq m i (by omega), has_eq n i (by omega), Option.bind_some, hw, wsucc (show i < 9223372036854775807 by omega)]
      cases h1 : m.testBit i <;> cases h2 : n.testBit i
      · simp only [reduceCtorEq, if_false, Bool.not_false, Bool.true_or, Bool.true_and]
        exact ih
      · simp only [reduceCtorEq, if_false, Bool.not_false, Bool.true_or, Bool.true_and]
        exact ih
      · simp only [reduceCtorEq, if_true, if_false, Bool.not_true, Bool.false_or, Bool.false_and]
        exact Ev.now _
      · simp only [if_true, Bool.not_true, Bool.false_or, Bool.true_and]
        exact ih
  exact key 0 (by omega)
theorem and_zero_iff {n : Nat} (hn : n < 256) : Go.bits .and .i64 (n : Int) 16 = 0 ↔ n.testBit 4 = false := by
  rw [show ((16 : Int)) = ((16 : Nat) : Int) from rfl, bits_and_nat n 16 (by omega) (by omega)]
  have e : n &&& 16 = if n.testBit 4 then 2 ^ 4 else 0 := by
    refine Nat.eq_of_testBit_eq (fun j => ?_)
    rw [Nat.testBit_and, show (16 : Nat) = 2 ^ 4 from rfl, Nat.testBit_two_pow]
    by_cases hj : 4 = j
    · subst hj
      cases h : n.testBit 4
      · simp
      · simp
        decide
    · cases h : n.testBit 4
      · simp [hj]
      · rw [if_pos rfl, Nat.testBit_two_pow]
        simp [hj]
  rw [e]
  cases h : n.testBit 4 <;> simp
theorem andNot_iff {n m : Nat} (hn : n < 256) : Go.bits .andNot .i64 (Go.bits .and .i64 (n : Int) 15) (m : Int) = 0 ↔ under n m 4 = true := by
  rw [show ((15 : Int)) = ((15 : Nat) : Int) from rfl, bits_and_nat n 15 (by omega) (by omega)]
  have hx : n &&& 15 ≤ 15 := Nat.and_le_right
  have hy : (BitVec.ofInt 64 ((n &&& 15 : Nat) : Int) &&& ~~~ BitVec.ofInt 64 (m : Int)).toNat ≤ 15 := by
    rw [BitVec.toNat_and, ofInt_nat _ (by omega)]
    exact Nat.le_trans Nat.and_le_left hx
  have e : Go.bits .andNot .i64 ((n &&& 15 : Nat) : Int) (m : Int) = (((BitVec.ofInt 64 ((n &&& 15 : Nat) : Int) &&& ~~~ BitVec.ofInt 64 (m : Int)).toNat : Nat) : Int) := by
    show IntKind.i64.wrap ((BitVec.ofInt 64 ((n &&& 15 : Nat) : Int) &&& ~~~ BitVec.ofInt 64 (m : Int)).toNat : Int) = _
    rw [i64_small _ (by omega)]
  have f15 : ∀ j, (15 : Nat).testBit j = decide (j < 4) := fun j => by
    rw [show (15 : Nat) = 2 ^ 4 - 1 from rfl, Nat.testBit_two_pow_sub_one]
  rw [e]
  unfold under
  rw [allFrom_iff]
  have z : ((((BitVec.ofInt 64 ((n &&& 15 : Nat) : Int) &&& ~~~ BitVec.ofInt 64 (m : Int)).toNat : Nat) : Int) = 0) ↔ (BitVec.ofInt 64 ((n &&& 15 : Nat) : Int) &&& ~~~ BitVec.ofInt 64 (m : Int)) = 0#64 := by
    rw [← BitVec.toNat_inj]
    simp
  rw [z]
  constructor
  · intro h j _ hj
    have := congrArg (fun b => b.getLsbD j) h
    simp only [BitVec.ofInt_natCast, BitVec.getLsbD_and, BitVec.getLsbD_not, BitVec.getLsbD_ofNat, Nat.testBit_and, f15, BitVec.getLsbD_zero, show j < 64 by omega, hj, decide_true, Bool.true_and, Bool.and_true] at this
    cases h1 : n.testBit j <;> cases h2 : m.testBit j <;> simp_all
  · intro h
    refine BitVec.eq_of_getLsbD_eq (fun j hj => ?_)
    simp only [BitVec.ofInt_natCast, BitVec.getLsbD_and, BitVec.getLsbD_not, BitVec.getLsbD_ofNat, Nat.testBit_and, f15, BitVec.getLsbD_zero, hj, decide_true, Bool.true_and]
    by_cases hj4 : j < 4
    · have := h j (by omega) hj4
      cases h1 : n.testBit j <;> cases h2 : m.testBit j <;> simp_all
    · simp [hj4]
end Go.Proofs.Ytceilcdhflcbpaa.BitsF

/- Best and Purge: program and reference come to the same. -/
set_option linter.unusedSimpArgs false
namespace Go.Proofs.Ytceilcdhflcbpaa.Haves
open Go.RowKit Go.Proofs.YtceilcdhflcbpaaW.PrintWords Go.Proofs.YtceilcdhflcbpaaW.PrintMore Go.Proofs.Ytceilcdhflcbpaa.K Go.Proofs.Ytceilcdhflcbpaa.XA Go.Proofs.Ytceilcdhflcbpaa.Base Go.Proofs.Ytceilcdhflcbpaa.RHaveS Go.Proofs.Ytceilcdhflcbpaa.BitsF

theorem havesOk_at {l : List S30} (h : havesOk l = true) {i : Nat} (hi : i < l.length) : hv (rd_T30 l (i : Int)) = true := by
  unfold havesOk at h
  rw [Bool.and_eq_true, allFrom_iff] at h
  have := h.2 i (by omega) hi
  unfold havesAt at this
  rw [Bool.and_eq_true] at this
  exact this.1
theorem hv_flags {x : S30} (h : hv x = true) : 0 ≤ x.f3 ∧ x.f3 ≤ 255 := by
  unfold hv haveOk at h
  simp only [Bool.and_eq_true, decide_eq_true_eq] at h
  exact h.2.2.2.1
/-- Does a ticket serve: its service, the time, that it may be passed on, and the wanted flags? -/
def serves (x : S30) (a b c : Int) : Bool :=
  decide (x.f0 = a) && (decide (x.f1 ≤ b ∧ b ≤ x.f2) && (decide (Go.bits .and .i64 x.f3 16 = 0) && decide (Go.bits .and .i64 x.f3 c = c)))

theorem flags_want {d c : Int} (hd : 0 ≤ d ∧ d ≤ 255) (h : Go.bits .and .i64 d c = c) : 0 ≤ c ∧ c ≤ 255 := by
  obtain ⟨n, rfl⟩ := Int.eq_ofNat_of_zero_le hd.1
  have e : Go.bits .and .i64 (n : Int) c = ((n &&& (BitVec.ofInt 64 c).toNat : Nat) : Int) := by
    have hx : n &&& (BitVec.ofInt 64 c).toNat ≤ n := Nat.and_le_left
    have hn : n < 256 := by omega
    show IntKind.i64.wrap ((BitVec.ofInt 64 ((n : Nat) : Int) &&& BitVec.ofInt 64 c).toNat : Int) = _
    rw [BitVec.toNat_and, ofInt_nat n (by omega), i64_small _ (by omega)]
  rw [e] at h
  have hx : n &&& (BitVec.ofInt 64 c).toNat ≤ n := Nat.and_le_left
  omega
theorem spec_best_step (l : List S30) (a b c : Int) (hl : l.length ≤ 1125899906842624) (hok : havesOk l = true) (hc : 0 ≤ c ∧ c ≤ 255) (i : Nat) (hi : i < l.length) (f : Bool) (x0 x1 x2 x3 x4 : Int) (r : Int × Int × Int × Int × Int × Bool)
    (h : Ev (fun k => if serves (rd_T30 l (i : Int)) a b c = true ∧ (f = true → (rd_T30 l (i : Int)).f2 > x2) then spec_Best.l0 k l a b c true ((i + 1 : Nat) : Int) (rd_T30 l (i : Int)).f0 (rd_T30 l (i : Int)).f1 (rd_T30 l (i : Int)).f2 (rd_T30 l (i : Int)).f3 (rd_T30 l (i : Int)).f4 else spec_Best.l0 k l a b c f ((i + 1 : Nat) : Int) x0 x1 x2 x3 x4) r) :
    Ev (fun k => spec_Best.l0 k l a b c f (i : Int) x0 x1 x2 x3 x4) r := by
  refine Ev.step (fun k => by rw [spec_Best.l0]) ?_
  simp only [show (i : Int) < (l.length : Int) by omega, if_true]
  refine Ev.bind (spec_HavesOk l hl) ?_
  simp only [hok, if_true, flagsOk_s, hc, and_self, decide_true, Option.bind_some]
  refine Ev.step (fun k => by rw [spec_Best.j1]) ?_
  simp only [if_true, show (i : Int) < (l.length : Int) by omega, Int.natCast_nonneg, l1In_eq, Option.bind_some, wsucc (show i < 9223372036854775807 by omega)]
  have hf := hv_flags (havesOk_at hok hi)
  obtain ⟨n, hn⟩ := Int.eq_ofNat_of_zero_le hf.1
  obtain ⟨m, hm⟩ := Int.eq_ofNat_of_zero_le hc.1
  have hn2 : n < 256 := by omega
  have hm2 : m < 256 := by omega
  unfold serves at h
  by_cases h0 : (rd_T30 l (i : Int)).f0 = a
  · by_cases h1 : (rd_T30 l (i : Int)).f1 ≤ b ∧ b ≤ (rd_T30 l (i : Int)).f2
    · rw [hn, show (16 : Int) = ((2 ^ 4 : Nat) : Int) from rfl, has_eq n 4 (by omega)]
      rw [hn] at h
      have z := and_zero_iff hn2
      simp only [if_pos h0, if_pos h1, h1, and_self, decide_true, if_true, Option.bind_some]
      by_cases h2 : n.testBit 4 = true
      · simp only [h2, if_true]
        have z2 : ¬ Go.bits .and .i64 (n : Int) 16 = 0 := fun hz => by
          have := z.1 hz
          rw [h2] at this
          exact Bool.noConfusion this
        simp only [z2, decide_false, Bool.false_and, Bool.and_false, reduceCtorEq, false_and, if_false] at h
        exact h
      · simp only [Bool.not_eq_true] at h2
        simp only [h2, reduceCtorEq, if_false]
        have z2 := z.2 h2
        rw [hm]
        refine Ev.bind (all_eq m n hm2 hn2) ?_
        have y : (Go.bits .and .i64 (n : Int) c = c) ↔ under m n 8 = true := by
          rw [hm, bits_and_nat n m (by omega) (by omega), ← and_eq_iff hm2]
          omega
        by_cases h3 : under m n 8 = true
        · simp only [h3, if_true]
          have y2 := y.2 h3
          simp only [h0, h1, z2, y2, and_self, decide_true, Bool.and_self, true_and] at h
          cases f
          · simp only [reduceCtorEq, false_implies, if_true, if_false, h0] at h ⊢
            rw [hm] at h
            exact h
          · simp only [true_implies, if_true, h0] at h ⊢
            rw [hm] at h
            exact h
        · have y2 : ¬ Go.bits .and .i64 (n : Int) c = c := fun hy => h3 (y.1 hy)
          simp only [h3, if_false]
          simp only [y2, decide_false, Bool.and_false, reduceCtorEq, false_and, if_false] at h
          rw [hm] at h
          exact h
    · simp only [if_pos h0, h1, decide_false, reduceCtorEq, if_false]
      simp only [h1, decide_false, Bool.false_and, Bool.and_false, reduceCtorEq, false_and, if_false] at h
      exact h
  · simp only [if_neg h0]
    simp only [h0, decide_false, Bool.false_and, reduceCtorEq, false_and, if_false] at h
    exact h
theorem impl_best_step (l : List S30) (a b c : Int) (hl : l.length ≤ 1125899906842624) (i : Nat) (hi : i < l.length) (f : Bool) (x0 x1 x2 x3 x4 : Int) (r : Int × Int × Int × Int × Int × Bool)
    (h : Ev (fun k => if (havesOk l = true ∧ serves (rd_T30 l (i : Int)) a b c = true) ∧ (f = true → (rd_T30 l (i : Int)).f2 > x2) then impl_Best.l0 k l a b c true l (l.length : Int) ((i + 1 : Nat) : Int) (rd_T30 l (i : Int)).f0 (rd_T30 l (i : Int)).f1 (rd_T30 l (i : Int)).f2 (rd_T30 l (i : Int)).f3 (rd_T30 l (i : Int)).f4 else impl_Best.l0 k l a b c f l (l.length : Int) ((i + 1 : Nat) : Int) x0 x1 x2 x3 x4) r) :
    Ev (fun k => impl_Best.l0 k l a b c f l (l.length : Int) (i : Int) x0 x1 x2 x3 x4) r := by
  refine Ev.step (fun k => by rw [impl_Best.l0]) ?_
  simp only [show (i : Int) < (l.length : Int) by omega, if_true, Int.natCast_nonneg, within_eq, Option.bind_some, wsucc (show i < 9223372036854775807 by omega)]
  unfold serves at h
  by_cases h0 : (rd_T30 l (i : Int)).f0 = a
  · by_cases h1 : (rd_T30 l (i : Int)).f1 ≤ b ∧ b ≤ (rd_T30 l (i : Int)).f2
    · by_cases h2 : Go.bits .and .i64 (rd_T30 l (i : Int)).f3 16 = 0
      · by_cases h3 : Go.bits .and .i64 (rd_T30 l (i : Int)).f3 c = c
        · simp only [if_pos h0, h1, and_self, decide_true, if_true, if_pos h2, if_pos h3]
          refine Ev.bind (impl_HavesOk l hl) ?_
          by_cases hok : havesOk l = true
          · simp only [hok, h0, h1, h2, h3, and_self, decide_true, Bool.and_self, true_and] at h ⊢
            cases f
            · simp only [reduceCtorEq, false_implies, if_true, if_false] at h ⊢
              exact h
            · simp only [true_implies, if_true] at h ⊢
              exact h
          · simp only [hok, false_and, if_false] at h ⊢
            exact h
        · simp only [if_pos h0, h1, and_self, decide_true, if_true, if_pos h2, if_neg h3]
          simp only [h3, decide_false, Bool.and_false, reduceCtorEq, and_false, false_and, if_false] at h
          exact h
      · simp only [if_pos h0, h1, and_self, decide_true, if_true, if_neg h2]
        simp only [h2, decide_false, Bool.false_and, Bool.and_false, reduceCtorEq, and_false, false_and, if_false] at h
        exact h
    · simp only [if_pos h0, h1, decide_false, reduceCtorEq, if_false]
      simp only [h1, decide_false, Bool.false_and, Bool.and_false, reduceCtorEq, and_false, false_and, if_false] at h
      exact h
  · simp only [if_neg h0]
    simp only [h0, decide_false, Bool.false_and, reduceCtorEq, and_false, false_and, if_false] at h
    exact h
theorem best_yes (l : List S30) (a b c : Int) (hl : l.length ≤ 1125899906842624) (hok : havesOk l = true) (hc : 0 ≤ c ∧ c ≤ 255) : ∀ i, i ≤ l.length → ∀ (f : Bool) (x0 x1 x2 x3 x4 : Int), ∃ r, Ev (fun k => spec_Best.l0 k l a b c f (i : Int) x0 x1 x2 x3 x4) r ∧ Ev (fun k => impl_Best.l0 k l a b c f l (l.length : Int) (i : Int) x0 x1 x2 x3 x4) r := by
  refine down _ (fun f x0 x1 x2 x3 x4 => ⟨(x0, x1, x2, x3, x4, f), ?_, ?_⟩) (fun i hi ih f x0 x1 x2 x3 x4 => ?_)
  · refine Ev.step (fun k => by rw [spec_Best.l0]) ?_
    simp only [Int.lt_irrefl, if_false]
    refine Ev.step (fun k => by rw [spec_Best.j1]) ?_
    simp only [reduceCtorEq, if_false]
    exact Ev.now _
  · refine Ev.step (fun k => by rw [impl_Best.l0]) ?_
    simp only [Int.lt_irrefl, if_false]
    exact Ev.now _
  · by_cases hs : serves (rd_T30 l (i : Int)) a b c = true ∧ (f = true → (rd_T30 l (i : Int)).f2 > x2)
    · obtain ⟨r, h1, h2⟩ := ih true (rd_T30 l (i : Int)).f0 (rd_T30 l (i : Int)).f1 (rd_T30 l (i : Int)).f2 (rd_T30 l (i : Int)).f3 (rd_T30 l (i : Int)).f4
      refine ⟨r, spec_best_step l a b c hl hok hc i hi f x0 x1 x2 x3 x4 r ?_, impl_best_step l a b c hl i hi f x0 x1 x2 x3 x4 r ?_⟩
      · simp only [if_pos hs]
        exact h1
      · simp only [hok, true_and, if_pos hs]
        exact h2
    · obtain ⟨r, h1, h2⟩ := ih f x0 x1 x2 x3 x4
      refine ⟨r, spec_best_step l a b c hl hok hc i hi f x0 x1 x2 x3 x4 r ?_, impl_best_step l a b c hl i hi f x0 x1 x2 x3 x4 r ?_⟩
      · simp only [if_neg hs]
        exact h1
      · simp only [hok, true_and, if_neg hs]
        exact h2
theorem best_no (l : List S30) (a b c : Int) (hl : l.length ≤ 1125899906842624) (h : ¬ (havesOk l = true ∧ (0 ≤ c ∧ c ≤ 255))) (f : Bool) (x0 x1 x2 x3 x4 : Int) : ∀ i, i ≤ l.length → Ev (fun k => impl_Best.l0 k l a b c f l (l.length : Int) (i : Int) x0 x1 x2 x3 x4) (x0, x1, x2, x3, x4, f) := by
  refine down _ ?_ (fun i hi ih => ?_)
  · refine Ev.step (fun k => by rw [impl_Best.l0]) ?_
    simp only [Int.lt_irrefl, if_false]
    exact Ev.now _
  · refine impl_best_step l a b c hl i hi f x0 x1 x2 x3 x4 _ ?_
    have no : ¬ (havesOk l = true ∧ serves (rd_T30 l (i : Int)) a b c = true) := fun hh => h ⟨hh.1, by
      have hs := hh.2
      unfold serves at hs
      simp only [Bool.and_eq_true, decide_eq_true_eq] at hs
      exact flags_want (hv_flags (havesOk_at hh.1 hi)) hs.2.2.2⟩
    simp only [no, false_and, if_false]
    exact ih
theorem Best (l : List S30) (a b c : Int) (hl : l.length ≤ 1125899906842624) : ∃ r, Ev (fun k => spec_Best.f k l a b c) r ∧ Ev (fun k => impl_Best.f k l a b c) r := by
  unfold spec_Best.f impl_Best.f
  by_cases h : havesOk l = true ∧ (0 ≤ c ∧ c ≤ 255)
  · exact best_yes l a b c hl h.1 h.2 0 (by omega) _ _ _ _ _ _
  · refine ⟨(0, 0, 0, 0, 0, false), ?_, best_no l a b c hl h _ _ _ _ _ _ 0 (by omega)⟩
    refine Ev.step (fun k => by rw [spec_Best.l0]) ?_
    have no : Ev (fun k => spec_Best.j1 k l a b c false 0 false 0 0 0 0 0) (0, 0, 0, 0, 0, false) := by
      refine Ev.step (fun k => by rw [spec_Best.j1]) ?_
      simp only [reduceCtorEq, if_false]
      exact Ev.now _
    by_cases h0 : (0 : Int) < (l.length : Int)
    · simp only [h0, if_true]
      refine Ev.bind (spec_HavesOk l hl) ?_
      by_cases hok : havesOk l = true
      · have hc : ¬ (0 ≤ c ∧ c ≤ 255) := fun hc => h ⟨hok, hc⟩
        simp only [hok, if_true, flagsOk_s, hc, decide_false, Option.bind_some]
        exact no
      · simp only [hok, if_false]
        exact no
    · simp only [h0, if_false]
      exact no
end Go.Proofs.Ytceilcdhflcbpaa.Haves

/- HavePut: program and reference come to the same. -/
set_option linter.unusedSimpArgs false
namespace Go.Proofs.Ytceilcdhflcbpaa.Haves
open Go.RowKit Go.Proofs.YtceilcdhflcbpaaW.PrintWords Go.Proofs.YtceilcdhflcbpaaW.PrintMore Go.Proofs.Ytceilcdhflcbpaa.K Go.Proofs.Ytceilcdhflcbpaa.XA Go.Proofs.Ytceilcdhflcbpaa.Base Go.Proofs.Ytceilcdhflcbpaa.RHaveS Go.Proofs.Ytceilcdhflcbpaa.BitsF

theorem below_eq (n m : Nat) (hn : n < 256) (hm : m < 256) : Ev (fun k => spec_Below.f k (n : Int) (m : Int)) (under n m 4) := by
  unfold spec_Below.f under
  simp only [flagsOk_s, show (0 : Int) ≤ (n : Int) ∧ (n : Int) ≤ 255 by omega, show (0 : Int) ≤ (m : Int) ∧ (m : Int) ≤ 255 by omega, and_self, decide_true, Option.bind_some, if_true, Bool.not_true]
  refine Ev.step (fun k => by rw [spec_Below.j0]) ?_
  simp only [reduceCtorEq, if_false]
  have key : ∀ i : Nat, i ≤ 4 → Ev (fun k => spec_Below.l0 k (n : Int) (m : Int) ((2 ^ i : Nat) : Int)) (allFrom (fun j => !n.testBit j || m.testBit j) 4 i) := by
    refine down _ ?_ (fun i hi ih => ?_)
    · refine Ev.step (fun k => by rw [spec_Below.l0]) ?_
      simp only [show ¬ (((2 ^ 4 : Nat) : Int) ≤ 8) by decide, if_false]
      exact evr (Ev.now _) (allFrom_end _ _).symm
    · refine Ev.step (fun k => by rw [spec_Below.l0]) ?_
      rw [allFrom_step _ hi]
      have hp : 2 ^ i ≤ 2 ^ 3 := Nat.pow_le_pow_right (by omega) (by omega)
      have hle : ((2 ^ i : Nat) : Int) ≤ 8 := by
        generalize 2 ^ i = q at hp ⊢
        omega
      have hw : wrap64 (((2 ^ i : Nat) : Int) * 2) = ((2 ^ (i + 1) : Nat) : Int) := by
        rw [Nat.pow_succ]
        generalize 2 ^ i = q at hp ⊢
        rw [w64 (by omega) (by omega)]
        omega
      simp only [hle, if_true, has_eq m i (by omega), has_eq n i (by omega), Option.bind_some, hw]
      cases h1 : n.testBit i <;> cases h2 : m.testBit i
      · simp only [reduceCtorEq, if_false, Bool.not_false, Bool.true_or, Bool.true_and]
        exact ih
      · simp only [reduceCtorEq, if_false, Bool.not_false, Bool.true_or, Bool.true_and]
        exact ih
      · simp only [reduceCtorEq, if_true, if_false, Bool.not_true, Bool.false_or, Bool.false_and]
        exact Ev.now _
      · simp only [if_true, Bool.not_true, Bool.false_or, Bool.true_and]
        exact ih
  exact key 0 (by omega)
theorem below_int (a b : Int) (ha : 0 ≤ a ∧ a ≤ 255) (hb : 0 ≤ b ∧ b ≤ 255) : Ev (fun k => spec_Below.f k a b) (decide (Go.bits .andNot .i64 (Go.bits .and .i64 a 15) b = 0)) := by
  obtain ⟨n, rfl⟩ := Int.eq_ofNat_of_zero_le ha.1
  obtain ⟨m, rfl⟩ := Int.eq_ofNat_of_zero_le hb.1
  refine evr (below_eq n m (by omega) (by omega)) ?_
  rw [Bool.eq_iff_iff, decide_eq_true_eq]
  exact (andNot_iff (by omega)).symm
/-- Does the ticket t make x needless? -/
def drops (t x : S30) : Bool := decide (x.f0 = t.f0) && (decide (x.f2 ≤ t.f2) && decide (Go.bits .andNot .i64 (Go.bits .and .i64 x.f3 15) t.f3 = 0))
/-- What putting answers, of what was kept. -/
def put (l : List S30) (t : S30) (y : List S30) : List S30 × Bool := if havesOk (y ++ [t]) = true then (y ++ [t], true) else (l, false)
theorem put_len (l : List S30) (t : S30) (y : List S30) : (put l t y).1.length ≤ l.length + 12 := by
  unfold put
  split
  · rename_i h
    have := havesOk_len h
    show (y ++ [t]).length ≤ _
    omega
  · show l.length ≤ _
    omega
theorem put_bad {l : List S30} {t : S30} (h : hv t = false) (y : List S30) : put l t y = (l, false) := by
  unfold put
  by_cases hy : havesOk (y ++ [t]) = true
  · have := havesOk_at hy (i := y.length) (by simp)
    rw [rdB (by simp), List.getElem_append_right (by omega)] at this
    simp [h] at this
  · rw [if_neg hy]
theorem filter_step (l : List S30) (t : S30) {i : Nat} (hi : i < l.length) (acc : List S30) : acc ++ (l.drop i).filter (fun x => !drops t x) = (if drops t l[i] = true then acc else acc ++ [l[i]]) ++ (l.drop (i + 1)).filter (fun x => !drops t x) := by
  rw [List.drop_eq_getElem_cons hi, List.filter_cons]
  cases h : drops t l[i] <;> simp
theorem spec_put (l : List S30) (t : S30) (hl : l.length ≤ 12) (hok : havesOk l = true) (ht : hv t = true) : ∀ i, i ≤ l.length → ∀ acc : List S30, acc.length ≤ i → Ev (fun k => spec_HavePut.l0 k l acc (i : Int) t.f0 t.f1 t.f2 t.f3 t.f4) (put l t (acc ++ (l.drop i).filter (fun x => !drops t x))) := by
  refine down _ (fun acc ha => ?_) (fun i hi ih acc ha => ?_)
  · refine Ev.step (fun k => by rw [spec_HavePut.l0]) ?_
    simp only [Int.lt_irrefl, if_false, show acc.length < 3518437208883 by omega, if_true, Option.bind_some]
    refine Ev.bind (spec_HavesOk (acc ++ [t]) (by simp only [List.length_append, List.length_singleton]; omega)) ?_
    have hz : ([] : List S30).length + l.length < 3518437208883 := by simp only [List.length_nil]; omega
    rw [List.drop_length, List.filter_nil, List.append_nil]
    unfold put
    by_cases hy : havesOk (acc ++ [t]) = true
    · simp only [if_pos hy]
      exact Ev.now _
    · simp only [if_neg hy, if_pos hz, List.nil_append]
      exact Ev.now _
  · rw [filter_step l t hi acc]
    have hf := hv_flags (havesOk_at hok hi)
    have hg := hv_flags ht
    have keepI := ih (acc ++ [l[i]]) (by simp only [List.length_append, List.length_singleton]; omega)
    have dropI := ih acc (by omega)
    have er : rd_T30 l (i : Int) = l[i] := rdB hi
    rw [er] at hf
    rw [show drops t l[i] = (decide (l[i].f0 = t.f0) && (decide (l[i].f2 ≤ t.f2) && decide (Go.bits .andNot .i64 (Go.bits .and .i64 l[i].f3 15) t.f3 = 0))) from rfl]
    refine Ev.step (fun k => by rw [spec_HavePut.l0]) ?_
    have hh : haveOk t.f0 t.f1 t.f2 t.f3 t.f4 = true := ht
    simp only [show (i : Int) < (l.length : Int) by omega, Int.natCast_nonneg, if_true, wsucc (show i < 9223372036854775807 by omega), show acc.length < 3518437208883 by omega, if_true, l26Ok_eq, hh, Option.bind_some, er]
    by_cases h0 : l[i].f0 = t.f0
    · by_cases h2 : l[i].f2 ≤ t.f2
      · simp only [if_pos h0, if_pos h2]
        refine Ev.bind (below_int _ _ hf hg) ?_
        by_cases h3 : Go.bits .andNot .i64 (Go.bits .and .i64 l[i].f3 15) t.f3 = 0
        · simp only [h3, if_true, h0, h2, decide_true, Bool.and_self]
          exact dropI
        · simp only [h3, if_false, decide_false, Bool.and_false, reduceCtorEq]
          exact keepI
      · simp only [if_pos h0, if_neg h2, h2, decide_false, Bool.false_and, Bool.and_false, reduceCtorEq, if_false]
        exact keepI
    · simp only [if_neg h0, h0, decide_false, Bool.false_and, reduceCtorEq, if_false]
      exact keepI
theorem spec_bad (l : List S30) (t : S30) (hl : l.length ≤ 12) (hb : hv t = false) : ∀ i, i ≤ l.length → ∀ acc : List S30, acc.length ≤ i → Ev (fun k => spec_HavePut.l0 k l acc (i : Int) t.f0 t.f1 t.f2 t.f3 t.f4) (l, false) := by
  refine down _ (fun acc ha => ?_) (fun i hi ih acc ha => ?_)
  · refine Ev.step (fun k => by rw [spec_HavePut.l0]) ?_
    simp only [Int.lt_irrefl, if_false, show acc.length < 3518437208883 by omega, if_true, Option.bind_some]
    refine Ev.bind (spec_HavesOk (acc ++ [t]) (by simp only [List.length_append, List.length_singleton]; omega)) ?_
    have hz : ([] : List S30).length + l.length < 3518437208883 := by simp only [List.length_nil]; omega
    have hy : ¬ havesOk (acc ++ [t]) = true := fun hy => by
      have hp := put_bad hb (l := l) acc
      unfold put at hp
      rw [if_pos hy] at hp
      exact Bool.noConfusion (congrArg Prod.snd hp)
    simp only [if_neg hy, if_pos hz, List.nil_append]
    exact Ev.now _
  · have keepI := ih (acc ++ [⟨(rd_T30 l (i : Int)).f0, (rd_T30 l (i : Int)).f1, (rd_T30 l (i : Int)).f2, (rd_T30 l (i : Int)).f3, (rd_T30 l (i : Int)).f4⟩]) (by simp only [List.length_append, List.length_singleton]; omega)
    refine Ev.step (fun k => by rw [spec_HavePut.l0]) ?_
    have hh : haveOk t.f0 t.f1 t.f2 t.f3 t.f4 = false := hb
    simp only [show (i : Int) < (l.length : Int) by omega, Int.natCast_nonneg, if_true, wsucc (show i < 9223372036854775807 by omega), show acc.length < 3518437208883 by omega, if_true, l26Ok_eq, hh, Option.bind_some, reduceCtorEq, if_false]
    exact keepI
theorem impl_put (l : List S30) (t : S30) (hl : l.length ≤ 12) (hok : havesOk l = true) (ht : hv t = true) : ∀ i, i ≤ l.length → ∀ acc : List S30, acc.length ≤ i → Ev (fun k => impl_HavePut.l0 k l acc l (l.length : Int) (i : Int) t.f0 t.f1 t.f2 t.f3 t.f4) (put l t (acc ++ (l.drop i).filter (fun x => !drops t x))) := by
  refine down _ (fun acc ha => ?_) (fun i hi ih acc ha => ?_)
  · refine Ev.step (fun k => by rw [impl_HavePut.l0]) ?_
    simp only [Int.lt_irrefl, if_false, show acc.length < 3518437208883 by omega, if_true, Option.bind_some]
    refine Ev.bind (impl_HavesOk (acc ++ [t]) (by simp only [List.length_append, List.length_singleton]; omega)) ?_
    have hz : ([] : List S30).length + l.length < 3518437208883 := by simp only [List.length_nil]; omega
    rw [List.drop_length, List.filter_nil, List.append_nil]
    unfold put
    by_cases hy : havesOk (acc ++ [t]) = true
    · simp only [if_pos hy]
      exact Ev.now _
    · simp only [if_neg hy, if_pos hz, List.nil_append]
      exact Ev.now _
  · rw [filter_step l t hi acc]
    have hf := hv_flags (havesOk_at hok hi)
    have hg := hv_flags ht
    have keepI := ih (acc ++ [l[i]]) (by simp only [List.length_append, List.length_singleton]; omega)
    have dropI := ih acc (by omega)
    have er : rd_T30 l (i : Int) = l[i] := rdB hi
    rw [er] at hf
    rw [show drops t l[i] = (decide (l[i].f0 = t.f0) && (decide (l[i].f2 ≤ t.f2) && decide (Go.bits .andNot .i64 (Go.bits .and .i64 l[i].f3 15) t.f3 = 0))) from rfl]
    refine Ev.step (fun k => by rw [impl_HavePut.l0]) ?_
    simp only [show (i : Int) < (l.length : Int) by omega, Int.natCast_nonneg, if_true, wsucc (show i < 9223372036854775807 by omega), show acc.length < 3518437208883 by omega, if_true, er]
    by_cases h0 : l[i].f0 = t.f0
    · by_cases h2 : l[i].f2 > t.f2
      · simp only [if_pos h0, if_pos h2, show ¬ l[i].f2 ≤ t.f2 by omega, decide_false, Bool.false_and, Bool.and_false, reduceCtorEq, if_false]
        exact keepI
      · simp only [if_pos h0, if_neg h2, show decide (l[i].f0 = t.f0) = true from decide_eq_true h0, show l[i].f2 ≤ t.f2 by omega, decide_true, Bool.true_and]
        by_cases h3 : Go.bits .andNot .i64 (Go.bits .and .i64 l[i].f3 15) t.f3 = 0
        · simp only [if_pos h3, h3, decide_true, if_true]
          exact dropI
        · simp only [if_neg h3, h3, decide_false, reduceCtorEq, if_false]
          exact keepI
    · simp only [if_neg h0, h0, decide_false, Bool.false_and, reduceCtorEq, if_false]
      exact keepI
theorem impl_bad (l : List S30) (t : S30) (hl : l.length ≤ 12) (hb : hv t = false) : ∀ i, i ≤ l.length → ∀ acc : List S30, acc.length ≤ i → Ev (fun k => impl_HavePut.l0 k l acc l (l.length : Int) (i : Int) t.f0 t.f1 t.f2 t.f3 t.f4) (l, false) := by
  refine down _ (fun acc ha => ?_) (fun i hi ih acc ha => ?_)
  · refine Ev.step (fun k => by rw [impl_HavePut.l0]) ?_
    simp only [Int.lt_irrefl, if_false, show acc.length < 3518437208883 by omega, if_true, Option.bind_some]
    refine Ev.bind (impl_HavesOk (acc ++ [t]) (by simp only [List.length_append, List.length_singleton]; omega)) ?_
    have hz : ([] : List S30).length + l.length < 3518437208883 := by simp only [List.length_nil]; omega
    have hy : ¬ havesOk (acc ++ [t]) = true := fun hy => by
      have hp := put_bad hb (l := l) acc
      unfold put at hp
      rw [if_pos hy] at hp
      exact Bool.noConfusion (congrArg Prod.snd hp)
    simp only [if_neg hy, if_pos hz, List.nil_append]
    exact Ev.now _
  · have keepI := ih (acc ++ [⟨(rd_T30 l (i : Int)).f0, (rd_T30 l (i : Int)).f1, (rd_T30 l (i : Int)).f2, (rd_T30 l (i : Int)).f3, (rd_T30 l (i : Int)).f4⟩]) (by simp only [List.length_append, List.length_singleton]; omega)
    refine Ev.step (fun k => by rw [impl_HavePut.l0]) ?_
    have dropI := ih acc (by omega)
    simp only [show (i : Int) < (l.length : Int) by omega, Int.natCast_nonneg, if_true, wsucc (show i < 9223372036854775807 by omega), show acc.length < 3518437208883 by omega, if_true]
    by_cases h0 : (rd_T30 l (i : Int)).f0 = t.f0
    · by_cases h2 : (rd_T30 l (i : Int)).f2 > t.f2
      · simp only [if_pos h0, if_pos h2]
        exact keepI
      · simp only [if_pos h0, if_neg h2]
        by_cases h3 : Go.bits .andNot .i64 (Go.bits .and .i64 (rd_T30 l (i : Int)).f3 15) t.f3 = 0
        · simp only [if_pos h3]
          exact dropI
        · simp only [if_neg h3]
          exact keepI
    · simp only [if_neg h0]
      exact keepI
theorem spec_HavePut (l : List S30) (t : S30) (hl : l.length ≤ 1125899906842) : Ev (fun k => spec_HavePut.f k l t.f0 t.f1 t.f2 t.f3 t.f4) (if havesOk l = true then put l t (l.filter (fun x => !drops t x)) else ([], false)) := by
  unfold spec_HavePut.f
  refine Ev.bind (spec_HavesOk l (by omega)) ?_
  by_cases hok : havesOk l = true
  · simp only [hok, if_true]
    have h12 := havesOk_len hok
    by_cases ht : hv t = true
    · exact spec_put l t h12 hok ht 0 (by omega) [] (by simp)
    · simp only [Bool.not_eq_true] at ht
      rw [put_bad ht]
      exact spec_bad l t h12 ht 0 (by omega) [] (by simp)
  · simp only [hok, if_false]
    exact Ev.now _
theorem impl_HavePut (l : List S30) (t : S30) (hl : l.length ≤ 1125899906842) : Ev (fun k => impl_HavePut.f k l t.f0 t.f1 t.f2 t.f3 t.f4) (if havesOk l = true then put l t (l.filter (fun x => !drops t x)) else ([], false)) := by
  unfold impl_HavePut.f
  refine Ev.bind (impl_HavesOk l (by omega)) ?_
  by_cases hok : havesOk l = true
  · simp only [hok, if_true]
    have h12 := havesOk_len hok
    by_cases ht : hv t = true
    · exact impl_put l t h12 hok ht 0 (by omega) [] (by simp)
    · simp only [Bool.not_eq_true] at ht
      rw [put_bad ht]
      exact impl_bad l t h12 ht 0 (by omega) [] (by simp)
  · simp only [hok, if_false]
    exact Ev.now _
end Go.Proofs.Ytceilcdhflcbpaa.Haves

set_option linter.unusedSimpArgs false
namespace Go.Proofs.Ytceilcdhflcbpaa.Pure
open Go.RowKit Go.Proofs.Ytceilcdhflcbpaa.XA Go.Proofs.YtceilcdhflcbpaaW.PrintWords Go.Proofs.Ytceilcdhflcbpaa.K Go.Proofs.Ytceilcdhflcbpaa.RHaveS Go.Proofs.Ytceilcdhflcbpaa.Haves

theorem FnExactHavePut : laws_FnExactHavePut.Pure := by
  intro l a0 a1 a2 a3 a4 hm
  intros
  refine Ev.rounds (g := fun k => laws_FnExactHavePut.f k l a0 a1 a2 a3 a4) ?_
  unfold laws_FnExactHavePut.f laws_szHaveS.f
  have hm8 : l.length ≤ 9223372036854775807 := by have := hm.1; unfold maxLen at this; omega
  rw [w64 (by omega) (by omega)]
  by_cases h : (1048576 : Int) - (l.length : Int) < 0
  · simp only [h, if_true, Option.bind_some, show (-1 : Int) < 0 by omega]
    exact Ev.now _
  · simp only [h, if_false, Option.bind_some, laws_toHave.f]
    have hl : (l.map cv).length ≤ 1048576 := by rw [List.length_map]; omega
    have hs := spec_HavePut (l.map cv) ⟨a0, a1, a2, a3, a4⟩ (by omega)
    have hi := impl_HavePut (l.map cv) ⟨a0, a1, a2, a3, a4⟩ (by omega)
    have hr : (if havesOk (l.map cv) = true then put (l.map cv) ⟨a0, a1, a2, a3, a4⟩ ((l.map cv).filter (fun x => !drops ⟨a0, a1, a2, a3, a4⟩ x)) else ([], false)).1.length ≤ (l.map cv).length + 12 := by
      split
      · exact put_len _ _ _
      · simp
    generalize (if havesOk (l.map cv) = true then put (l.map cv) ⟨a0, a1, a2, a3, a4⟩ ((l.map cv).filter (fun x => !drops ⟨a0, a1, a2, a3, a4⟩ x)) else ([], false)) = r at hs hi hr
    have hh : Ev (fun k => laws_heldHaveS.f k (marks 1 r.1.length) 1) (1 + ((5 * r.1.length : Nat) : Int)) :=
      evr (heldS (marks 1 r.1.length) 1 (by rw [marks_length]; omega) (by omega) (by omega) (by rw [marks_length])) (by rw [marks_length])
    refine Ev.bind (toS l (by omega)) ?_
    refine Ev.bind hs ?_
    refine Ev.bind (toS l (by omega)) ?_
    refine Ev.bind hi ?_
    refine Ev.bind (eqS _ (by omega)) ?_
    simp only [if_true, bne_self_eq_false, reduceCtorEq, if_false]
    refine Ev.bind (toS l (by omega)) ?_
    refine Ev.bind (eqS _ (by omega)) ?_
    simp only [if_true]
    refine Ev.bind (markS _ 1 (by omega) (by omega) (by omega)) ?_
    simp only [show ¬ (1 + ((5 * (l.map cv).length : Nat) : Int)) < 0 by omega, if_false]
    refine Ev.bind (eqS _ (by omega)) ?_
    simp only [if_true]
    refine Ev.bind (markS r.1 1 (by omega) (by omega) (by omega)) ?_
    refine Ev.bind hh ?_
    simp only [show ¬ (1 + ((5 * r.1.length : Nat) : Int)) < 0 by omega, if_false, if_true]
    refine Ev.bind (toS l (by omega)) ?_
    refine Ev.bind hi ?_
    refine Ev.bind (eqS _ (by omega)) ?_
    simp only [if_true, bne_self_eq_false, reduceCtorEq, if_false]
    refine Ev.bind hh ?_
    simp only [show ¬ (1 + ((5 * r.1.length : Nat) : Int)) < 0 by omega, if_false, if_true]
    exact Ev.now _
end Go.Proofs.Ytceilcdhflcbpaa.Pure

namespace Go.Proofs.Ytceilcdhflcbpaa.fnExactHavePut
open Go.ChangeShapes Go.WideShapes Go.ChangeAt Go.RowKit
open Go.ChangeMaps (open_string shut_string)
set_option linter.unusedVariables false
theorem own : ownKnob Try.prog.godebug = none := by kernel_rfl
theorem laidOut : laidOutB Try.prog = true := by kernel_rfl
set_option maxRecDepth 100000 in
theorem lifted (os : Os) (started : os.Started) (H : Type) (enc : TypeId × Value → H) :
    ReturnsInHanded {} Try.checked os 6 .any (Rows.fnExactHavePutSpec.pre6 enc Try.prog Try.f6 Rows.fnExactHavePutRow.domain false) (Rows.fnExactHavePutSpec.post enc Try.prog Try.f6 false true false false) := by
  refine returnsInHanded_of_change_sized (C := Try.checked) own started (by kernel_rfl) Try.func6
    (ChangeSpec.witness6 (enc := enc) (C := Try.checked) false ⟨#[], #[.slice none 0 0, .agg #[.int .i64 0, .int .i64 0, .int .i64 0, .int .i64 0, .int .i64 0]], []⟩ 8 (by kernel_rfl) (by kernel_rfl) (by kernel_rfl) (by kernel_rfl)) ?_
  intro W base args ds gs before hval0 hW hcnd hsz0 _
  have hval : ∀ (j : Nat) t v, Try.f6.params[j]? = some t → args[j]? = some v → Value.okWide Try.prog W .any base t v := hval0
  have hW' := hW
  obtain ⟨p, q, hA0, hV, rfl, hfz, hnd⟩ := hW
  have hA : DataW.TrodAll enc Try.prog W 0 (fun _ => true) true Try.f6.params.toList args.toList ds p := hA0
  rw [Try.params6] at hA hval
  obtain ⟨v0, vs0, d0, ds0, p0, q0, hargs, rfl, rfl, h0, r0⟩ := trodAll_cons hA
  obtain ⟨v1, vs1, d1, ds1, p1, q1, rfl, rfl, rfl, h1, r1⟩ := trodAll_cons r0
  obtain ⟨rfl, rfl, rfl⟩ := trodAll_nil r1
  obtain rfl : args = #[v0, v1] := by cases args; simp_all
  obtain ⟨rfl, rfl⟩ := trodVars_none hV
  have k0 := h0
  have lt0 : ∀ x ∈ p0, x.block < W.heap.size := by obtain ⟨m, hm⟩ := k0; exact DataW.trod_lt m _ _ _ hm
  obtain ⟨a0, len0, cap0, rfl⟩ := okWide_slice Try.underlying22 (hval 0 22 v0 rfl rfl)
  obtain ⟨z0, ⟨A0, c0, hcs0, hl0, hC0⟩, ok0⟩ := O.Opens.of_trod (O.Opens.slice (t := 22) (e := 38) Try.underlying22 (by kernel_rfl) XA.op38) h0
  simp [Value.cells] at hcs0
  obtain ⟨rfl, rfl, rfl⟩ := hcs0
  have k1 := h1
  have lt1 : ∀ x ∈ p1, x.block < W.heap.size := by obtain ⟨m, hm⟩ := k1; exact DataW.trod_lt m _ _ _ hm
  obtain ⟨cs1, rfl, _⟩ := okWide_struct Try.underlying38 (hval 1 38 v1 rfl rfl)
  obtain ⟨z1, hK1, ok1⟩ := O.Opens.of_trod XA.op38 h1
  obtain ⟨_, _, hcs1, rfl, ⟨_, _, rfl, rfl, ⟨_, _, rfl, rfl, ⟨_, _, rfl, rfl, rfl⟩⟩⟩⟩ := hK1
  obtain rfl : cs1 = #[.int .i64 z1.f0, .int .i64 z1.f1, .int .i64 z1.f2, .int .i64 z1.f3, .int .i64 z1.f4] := by cases cs1; simpa [Value.cells] using hcs1
  clear hA0 hval0 hsz0
  refine (XA.laws_FnExactHavePut.walk Pure.FnExactHavePut _ _ z0 z1.f0 z1.f1 z1.f2 z1.f3 z1.f4 W hC0 hl0 ok0 (ok1.1) (ok1.2.1) (ok1.2.2.1) (ok1.2.2.2.1) (ok1.2.2.2.2)).mono fun e W' ⟨he, bel⟩ => ?_
  subst he
  exact ⟨_, rfl, _, _, _, [], _, [], hW', trodAll_mk1 (shut_bool Try.underlying4 _), (trodAll_cons_mk (Below.trod laidOut (by kernel_rfl) (of_decide_eq_true (by kernel_rfl)) k0 bel lt0) (trodAll_cons_mk (Below.trod laidOut (by kernel_rfl) (of_decide_eq_true (by kernel_rfl)) k1 bel lt1) trodAll_mk0)), rfl, bel.frame _, fun h => by cases h⟩
theorem over : Rows.fnExactHavePutRow.holds Try.pinned (OpenSpec.ofChange Rows.fnExactHavePutSpec) :=
  OpenClaim.holds_of_wide 6 Try.f6 rfl rfl rfl rfl rfl rfl rfl ⟨rfl, rfl, rfl, rfl, rfl⟩ rfl rfl rfl rfl rfl (by kernel_rfl) Try.func6 (by kernel_rfl)
    (of_decide_eq_true (by kernel_rfl)) (by unfold Func.isWrapper; first | (rw [if_pos (by decide +kernel)]; kernel_rfl) | (rw [if_neg (by decide +kernel)]; exact ⟨rfl, rfl⟩))
    (fun os started H enc _ => lifted os started H enc)
theorem proved : Rows.FnExactHavePutSaid := over
#print axioms proved
end Go.Proofs.Ytceilcdhflcbpaa.fnExactHavePut
namespace Go.Proofs.Ytceilcdhflcbpaa
/-- The row, under a short name, for the claim. -/
theorem fnExactHavePut_holds : Rows.FnExactHavePutSaid := fnExactHavePut.proved
end Go.Proofs.Ytceilcdhflcbpaa
