/- The program's Purge answers what the reference's answers, for every list of tickets held and every time, leaves the list as it was, and its answer is nobody else's memory. Conditions: none beside those of the given row. -/
import Derived.Test.YtceilcdhflcbpaaXA0
import Derived.Test.YtceilcdhflcbpaaXAf45
import Derived.Test.YtceilcdhflcbpaaXAf48
import Derived.Test.YtceilcdhflcbpaaXAf75
import Derived.Test.YtceilcdhflcbpaaXAf11
import Derived.Test.YtceilcdhflcbpaaXAf13
import Derived.Test.YtceilcdhflcbpaaXAf16
import Derived.Test.YtceilcdhflcbpaaXAf19
import Derived.Test.YtceilcdhflcbpaaXAf20
import Derived.Test.YtceilcdhflcbpaaXAf22
import Derived.Test.YtceilcdhflcbpaaXAf10
import Derived.Test.YtceilcdhflcbpaaXAf12
import Derived.Test.YtceilcdhflcbpaaXAf40
import Derived.Test.YtceilcdhflcbpaaXAf41
import Derived.Test.YtceilcdhflcbpaaXAf44
import Derived.Test.YtceilcdhflcbpaaXAf74
import Derived.Test.YtceilcdhflcbpaaXAv1
import Derived.Test.YtceilcdhflcbpaaXAv2
import Derived.Test.YtceilcdhflcbpaaXAv3
import Derived.Test.YtceilcdhflcbpaaXAf17
import Derived.Test.YtceilcdhflcbpaaXAf18
import Derived.Test.YtceilcdhflcbpaaXAf5
import Derived.Test.YtceilcdhflcbpaaXAf9
import Derived.Test.YtceilcdhflcbpaaRows
import Derived.WalkKit
import Derived.ProofKit
import Derived.OpenShut
import Derived.ShutString
import Derived.ChangeOld
import Derived.Below
import Derived.SizedLaws
import Derived.Carry
/- Small lemmas on loops with rounds, on numbers that wrap round and on lists: what all pure laws of this seat use. -/
namespace Go.Proofs.Ytceilcdhflcbpaa.K
open Go.RowKit Go.Proofs.YtceilcdhflcbpaaW.PrintWords

theorem w64 {n : Int} (h0 : -9223372036854775808 ≤ n) (h1 : n ≤ 9223372036854775807) : wrap64 n = n := by
  unfold wrap64
  omega
theorem wsucc {i : Nat} (h : i < 9223372036854775807) : wrap64 ((i : Int) + 1) = ((i + 1 : Nat) : Int) := by
  unfold wrap64
  omega
theorem wadd1 {i : Int} (h0 : -1 ≤ i) (h : i < 9223372036854775807) : wrap64 (i + 1) = i + 1 := by
  unfold wrap64
  omega
theorem rdn (l : List Int) (i : Nat) : rd l (i : Int) = l.getD i 0 := rfl
theorem rd_get {l : List Int} {i : Nat} (h : i < l.length) : rd l (i : Int) = l[i] := by
  rw [rdn, List.getD_eq_getElem?_getD, List.getElem?_eq_getElem h]
  rfl
theorem wf_rd {l : List Int} (hw : ∀ x ∈ l, (Lit.int .i64 x).wf = true) (i : Int) : -9223372036854775808 ≤ rd l i ∧ rd l i ≤ 9223372036854775807 := by
  unfold rd
  rw [List.getD_eq_getElem?_getD]
  rcases h : l[i.toNat]? with _ | x
  · simp
  · have := hw x (List.mem_of_getElem? h)
    simp [Lit.wf, IntKind.min, IntKind.max, IntKind.signed, IntKind.bits] at this
    simpa using this
theorem wf_int {x : Int} (h : (Lit.int .i64 x).wf = true) : -9223372036854775808 ≤ x ∧ x ≤ 9223372036854775807 := by
  simp [Lit.wf, IntKind.min, IntKind.max, IntKind.signed, IntKind.bits] at h
  exact h
/-- From the last round back to the first. -/
theorem down {P : Nat → Prop} (n : Nat) (hend : P n) (hstep : ∀ i, i < n → P (i + 1) → P i) : ∀ i, i ≤ n → P i := by
  intro i hi
  obtain ⟨d, rfl⟩ : ∃ d, n = i + d := ⟨n - i, by omega⟩
  clear hi
  induction d generalizing i with
  | zero => exact hend
  | succ d ih => exact hstep i (by omega) (ih (i + 1) (by rw [show i + 1 + d = i + (d + 1) by omega]; exact hend) (fun j hj => hstep j (by omega)))
theorem evr {α : Type} {g : Nat → Option α} {r r' : α} (h : Ev g r) (e : r = r') : Ev g r' := e ▸ h
theorem evc {α : Type} {o : Option α} {r : α} (h : o = some r) : Ev (fun _ => o) r := ⟨0, fun _ _ => h⟩
theorem evu {α : Type} {g : Nat → Option α} {r r' : α} (h : Ev g r) (h' : Ev g r') : r = r' := by
  obtain ⟨K, h⟩ := h
  obtain ⟨K', h'⟩ := h'
  have h1 := h (max K K') (by omega)
  have h2 := h' (max K K') (by omega)
  rw [h1] at h2
  exact Option.some.inj h2
theorem drop_eq_iff {α : Type} {a b : List α} {i : Nat} (hi : i < a.length) (hj : i < b.length) : a.drop i = b.drop i ↔ a[i] = b[i] ∧ a.drop (i + 1) = b.drop (i + 1) := by
  rw [List.drop_eq_getElem_cons hi, List.drop_eq_getElem_cons hj, List.cons.injEq]
end Go.Proofs.Ytceilcdhflcbpaa.K

/- A test of each place of a list, from one on. -/
namespace Go.Proofs.Ytceilcdhflcbpaa.K
/-- A test of each place from i on. -/
def allFrom (q : Nat → Bool) (n i : Nat) : Bool := (List.range' i (n - i)).all q
theorem allFrom_end (q : Nat → Bool) (n : Nat) : allFrom q n n = true := by simp [allFrom]
theorem allFrom_step (q : Nat → Bool) {n i : Nat} (h : i < n) : allFrom q n i = (q i && allFrom q n (i + 1)) := by
  unfold allFrom
  rw [show n - i = (n - (i + 1)) + 1 by omega, List.range'_succ, List.all_cons]
theorem allFrom_iff (q : Nat → Bool) (n i : Nat) : allFrom q n i = true ↔ ∀ j, i ≤ j → j < n → q j = true := by
  unfold allFrom
  rw [List.all_eq_true]
  refine ⟨fun h j h1 h2 => h j (List.mem_range'_1.2 (by omega)), fun h j hj => ?_⟩
  have := List.mem_range'_1.1 hj
  exact h j (by omega) (by omega)
theorem allFrom_congr {q q' : Nat → Bool} {n : Nat} (h : ∀ j, j < n → q j = q' j) (i : Nat) : allFrom q n i = allFrom q' n i := by
  rw [Bool.eq_iff_iff, allFrom_iff, allFrom_iff]
  exact ⟨fun k j h1 h2 => (h j h2) ▸ k j h1 h2, fun k j h1 h2 => (h j h2).symm ▸ k j h1 h2⟩
end Go.Proofs.Ytceilcdhflcbpaa.K

/- Tests of bounds, in the program and in the reference. -/
namespace Go.Proofs.Ytceilcdhflcbpaa.Base
open Go.RowKit Go.Proofs.YtceilcdhflcbpaaW.PrintWords Go.Proofs.YtceilcdhflcbpaaW.PrintMore Go.Proofs.Ytceilcdhflcbpaa.K Go.Proofs.Ytceilcdhflcbpaa.XA

theorem l1In_eq (a b c : Int) : spec_l1In.f a b c = some (decide (b ≤ a ∧ a ≤ c)) := by
  unfold spec_l1In.f
  by_cases h : a ≥ b
  · rw [if_pos h]
    simp [show b ≤ a from h]
  · rw [if_neg h]
    simp [show ¬ b ≤ a from h]
theorem within_eq (a b c : Int) : impl_within.f a b c = some (decide (b ≤ a ∧ a ≤ c)) := by
  unfold impl_within.f
  by_cases h : a ≥ b
  · rw [if_pos h]
    simp [show b ≤ a from h]
  · rw [if_neg h]
    simp [show ¬ b ≤ a from h]
theorem isKey_eq (a : Int) : impl_isKey.f a = some (decide (1 ≤ a ∧ a ≤ 1000000)) := by
  unfold impl_isKey.f
  rw [within_eq]
  rfl
end Go.Proofs.Ytceilcdhflcbpaa.Base

/- What the laws' helpers on lists of records come to (printed by wip/rowsgen.py): a copy is the list, a list is like itself, marks are found again. -/
set_option linter.unusedSimpArgs false
namespace Go.Proofs.Ytceilcdhflcbpaa.RHaveS
open Go.RowKit Go.Proofs.YtceilcdhflcbpaaW.PrintWords Go.Proofs.YtceilcdhflcbpaaW.PrintMore Go.Proofs.Ytceilcdhflcbpaa.K Go.Proofs.Ytceilcdhflcbpaa.XA

theorem rdA {l : List S38} {i : Nat} (h : i < l.length) : rd_T38 l (i : Int) = l[i] := by
  unfold rd_T38
  rw [Int.toNat_natCast, List.getD_eq_getElem?_getD, List.getElem?_eq_getElem h]
  rfl
theorem rdB {l : List S30} {i : Nat} (h : i < l.length) : rd_T30 l (i : Int) = l[i] := by
  unfold rd_T30
  rw [Int.toNat_natCast, List.getD_eq_getElem?_getD, List.getElem?_eq_getElem h]
  rfl
def cv (x : S38) : S30 := ⟨x.f0, x.f1, x.f2, x.f3, x.f4⟩
theorem toS (l : List S38) (hl : l.length ≤ 7036874417766) : Ev (fun k => laws_toHaveS.f k l) (l.map cv) := by
  unfold laws_toHaveS.f
  simp only [Int.natCast_nonneg, Int.toNat_natCast, hl, if_true]
  have key : ∀ i, i ≤ l.length → ∀ acc : List S30, acc.length = l.length → Ev (fun k => laws_toHaveS.l0 k l acc (i : Int)) (acc.take i ++ (l.map cv).drop i) := by
    refine down _ (fun acc ha => ?_) (fun i hi ih acc ha => ?_)
    · refine Ev.step (fun k => by rw [laws_toHaveS.l0]) ?_
      simp only [Int.lt_irrefl, if_false]
      exact evr (Ev.now _) (by simp [← ha])
    · refine Ev.step (fun k => by rw [laws_toHaveS.l0]) ?_
      have h1 : (i : Int) < (l.length : Int) := by omega
      have h2 : (i : Int) < (acc.length : Int) := by omega
      simp only [h1, h2, Int.natCast_nonneg, if_true, wsucc (show i < 9223372036854775807 by omega), Int.toNat_natCast, rdA hi, laws_toHave.f, Option.bind_some]
      refine evr (ih (acc.set i (cv l[i])) (by simp [ha])) ?_
      rw [List.take_succ_eq_append_getElem (by simp; omega), List.getElem_set_self, List.take_set_of_le (by omega), List.append_assoc, List.drop_eq_getElem_cons (l := l.map cv) (i := i) (by simpa using hi), List.getElem_map]
      rfl
  refine evr (key 0 (by omega) _ (by simp)) (by simp)
theorem eqS (a : List S30) (hb : a.length < 9223372036854775807) : Ev (fun k => laws_eqHaveS.f k a a) true := by
  unfold laws_eqHaveS.f
  simp only [if_true]
  have key : ∀ i, i ≤ a.length → Ev (fun k => laws_eqHaveS.l0 k a a (i : Int)) true := by
    refine down _ ?_ (fun i hi ih => ?_)
    · refine Ev.step (fun k => by rw [laws_eqHaveS.l0]) ?_
      simp only [Int.lt_irrefl, if_false]
      exact Ev.now _
    · refine Ev.step (fun k => by rw [laws_eqHaveS.l0]) ?_
      simp only [show (i : Int) < (a.length : Int) by omega, Int.natCast_nonneg, if_true, wsucc (show i < 9223372036854775807 by omega), laws_eqHave.f, Option.bind_some, decide_true, beq_self_eq_true]
      exact ih
  exact key 0 (by omega)
def mk (k : Int) (i : Nat) : S30 := ⟨k + ((5 * i + 0 : Nat) : Int), k + ((5 * i + 1 : Nat) : Int), k + ((5 * i + 2 : Nat) : Int), k + ((5 * i + 3 : Nat) : Int), k + ((5 * i + 4 : Nat) : Int)⟩
def marks (k : Int) (n : Nat) : List S30 := (List.range n).map (mk k)
theorem marks_length (k : Int) (n : Nat) : (marks k n).length = n := by simp [marks]
theorem marks_get (k : Int) (n i : Nat) (h : i < n) : (marks k n)[i]'(by rw [marks_length]; exact h) = mk k i := by simp [marks]
theorem setget (l : List S30) (i : Nat) (x : S30) (h : i < l.length) : rd_T30 (l.set i x) (i : Int) = x := by
  rw [rdB (by simpa using h)]
  simp
theorem markS (l : List S30) (m : Int) (hl : l.length ≤ 1125899906842) (h0 : 0 ≤ m) (h1 : m ≤ 1125899906842624) : Ev (fun k => laws_markHaveS.f k l m) (m + ((5 * l.length : Nat) : Int), marks m l.length) := by
  unfold laws_markHaveS.f
  have key : ∀ i, i ≤ l.length → ∀ acc : List S30, acc.length = l.length → acc.take i = (marks m l.length).take i → Ev (fun k => laws_markHaveS.l0 k acc (m + ((5 * i : Nat) : Int)) (i : Int)) (m + ((5 * l.length : Nat) : Int), marks m l.length) := by
    refine down _ (fun acc ha hp => ?_) (fun i hi ih acc ha hp => ?_)
    · refine Ev.step (fun k => by rw [laws_markHaveS.l0]) ?_
      simp only [ha, Int.lt_irrefl, if_false]
      refine evr (Ev.now _) ?_
      rw [List.take_of_length_le (by omega), List.take_of_length_le (by rw [marks_length]; omega)] at hp
      rw [hp]
    · refine Ev.step (fun k => by rw [laws_markHaveS.l0]) ?_
      have h2 : (i : Int) < (acc.length : Int) := by omega
      have h3 : i < acc.length := by omega
      have s : ∀ n : Nat, n ≤ 5 * l.length → wrap64 (m + (n : Int) + 1) = m + ((n + 1 : Nat) : Int) := fun n hn => by rw [w64 (by omega) (by omega)]; omega
      simp only [h2, Int.natCast_nonneg, if_true, wsucc (show i < 9223372036854775807 by omega), Int.toNat_natCast, Option.bind_some, setget _ _ _ (show i < acc.length from h3), List.set_set, setget]
      simp only [s (5 * i) (by omega), s (5 * i + 1) (by omega), s (5 * i + 2) (by omega), s (5 * i + 3) (by omega), s (5 * i + 4) (by omega)]
      rw [show m + ((5 * i + 4 + 1 : Nat) : Int) = m + ((5 * (i + 1) : Nat) : Int) by omega]
      refine ih _ (by simp [ha]) ?_
      rw [List.take_succ_eq_append_getElem (by simp; omega), List.take_succ_eq_append_getElem (by rw [marks_length]; omega), List.getElem_set_self, List.take_set_of_le (by omega), hp, marks_get _ _ _ hi]
      rfl
  have := key 0 (by omega) l rfl (by simp)
  simpa using this
theorem heldS (l : List S30) (m : Int) (hl : l.length ≤ 1125899906842) (h0 : 0 ≤ m) (h1 : m ≤ 1125899906842624) (he : l = marks m l.length) : Ev (fun k => laws_heldHaveS.f k l m) (m + ((5 * l.length : Nat) : Int)) := by
  unfold laws_heldHaveS.f
  have key : ∀ i, i ≤ l.length → Ev (fun k => laws_heldHaveS.l0 k l (m + ((5 * i : Nat) : Int)) (i : Int)) (m + ((5 * l.length : Nat) : Int)) := by
    refine down _ ?_ (fun i hi ih => ?_)
    · refine Ev.step (fun k => by rw [laws_heldHaveS.l0]) ?_
      simp only [Int.lt_irrefl, if_false]
      exact Ev.now _
    · refine Ev.step (fun k => by rw [laws_heldHaveS.l0]) ?_
      have h2 : (i : Int) < (l.length : Int) := by omega
      have h3 : l[i] = mk m i := by
        have := marks_get m l.length i hi
        simp only [← he] at this
        exact this
      have s : ∀ n : Nat, n ≤ 5 * l.length → wrap64 (m + (n : Int) + 1) = m + ((n + 1 : Nat) : Int) := fun n hn => by rw [w64 (by omega) (by omega)]; omega
      simp only [h2, Int.natCast_nonneg, if_true, wsucc (show i < 9223372036854775807 by omega), rdB hi, h3, mk, Nat.add_zero]
      simp only [s (5 * i) (by omega), s (5 * i + 1) (by omega), s (5 * i + 2) (by omega), s (5 * i + 3) (by omega), s (5 * i + 4) (by omega), if_true]
      rw [show m + ((5 * i + 4 + 1 : Nat) : Int) = m + ((5 * (i + 1) : Nat) : Int) by omega]
      exact ih
  have := key 0 (by omega)
  simpa using this
end Go.Proofs.Ytceilcdhflcbpaa.RHaveS

/- What the functions on tickets held come to, in the program and in the reference alike. -/
set_option linter.unusedSimpArgs false
namespace Go.Proofs.Ytceilcdhflcbpaa.Haves
open Go.RowKit Go.Proofs.YtceilcdhflcbpaaW.PrintWords Go.Proofs.YtceilcdhflcbpaaW.PrintMore Go.Proofs.Ytceilcdhflcbpaa.K Go.Proofs.Ytceilcdhflcbpaa.XA Go.Proofs.Ytceilcdhflcbpaa.Base Go.Proofs.Ytceilcdhflcbpaa.RHaveS

def haveOk (a b c d e : Int) : Bool := decide (0 ≤ a ∧ a ≤ 99) && (decide (b ≥ 0) && (decide (b ≤ c ∧ c ≤ 100000) && (decide (0 ≤ d ∧ d ≤ 255) && decide (1 ≤ e ∧ e ≤ 1000000))))
theorem flagsOk_s (a : Int) : spec_FlagsOk.f a = some (decide (0 ≤ a ∧ a ≤ 255)) := by
  unfold spec_FlagsOk.f
  rw [l1In_eq]
  rfl
theorem flagsOk_i (a : Int) : impl_FlagsOk.f a = some (decide (0 ≤ a ∧ a ≤ 255)) := by
  unfold impl_FlagsOk.f
  rw [within_eq]
  rfl
theorem l26Ok_eq (a b c d e : Int) : spec_l26Ok.f a b c d e = some (haveOk a b c d e) := by
  unfold spec_l26Ok.f haveOk
  simp only [l1In_eq, flagsOk_s, Option.bind_some]
  by_cases h1 : 0 ≤ a ∧ a ≤ 99 <;> by_cases h2 : b ≥ 0 <;> by_cases h3 : b ≤ c ∧ c ≤ 100000 <;> by_cases h4 : 0 ≤ d ∧ d ≤ 255 <;> simp only [h1, h2, h3, h4, decide_true, decide_false, if_true, if_false, Bool.true_and, Bool.false_and, Bool.and_false, reduceCtorEq, and_self]
theorem haveOk_eq (a b c d e : Int) : impl_haveOk.f a b c d e = some (haveOk a b c d e) := by
  unfold impl_haveOk.f haveOk
  simp only [within_eq, isKey_eq, flagsOk_i, Option.bind_some]
  by_cases h1 : 0 ≤ a ∧ a ≤ 99 <;> by_cases h2 : b ≥ 0 <;> by_cases h3 : b ≤ c ∧ c ≤ 100000 <;> by_cases h4 : 0 ≤ d ∧ d ≤ 255 <;> simp only [h1, h2, h3, h4, decide_true, decide_false, if_true, if_false, Bool.true_and, Bool.false_and, Bool.and_false, reduceCtorEq, and_self]
def hv (x : S30) : Bool := haveOk x.f0 x.f1 x.f2 x.f3 x.f4
def other (l : List S30) (e : Int) (j : Nat) : Bool := !decide ((rd_T30 l (j : Int)).f4 = e)
def havesAt (l : List S30) (i : Nat) : Bool := hv (rd_T30 l (i : Int)) && allFrom (other l (rd_T30 l (i : Int)).f4) i 0
def havesOk (l : List S30) : Bool := decide (l.length ≤ 12) && allFrom (havesAt l) l.length 0
theorem havesOk_len {l : List S30} (h : havesOk l = true) : l.length ≤ 12 := by
  unfold havesOk at h
  rw [Bool.and_eq_true, decide_eq_true_eq] at h
  exact h.1

theorem spec_HavesOk (l : List S30) (hl : l.length ≤ 1125899906842624) : Ev (fun k => spec_HavesOk.f k l) (havesOk l) := by
  unfold spec_HavesOk.f havesOk
  by_cases h : (l.length : Int) > 12
  · simp only [h, if_true, show ¬ l.length ≤ 12 by omega, decide_false, Bool.false_and]
    exact Ev.now _
  · simp only [h, if_false, show l.length ≤ 12 by omega, decide_true, Bool.true_and]
    have key : ∀ i, i ≤ l.length → Ev (fun k => spec_HavesOk.l0 k l (i : Int)) (allFrom (havesAt l) l.length i) := by
      refine down _ ?_ (fun i hi ih => ?_)
      · refine Ev.step (fun k => by rw [spec_HavesOk.l0]) ?_
        simp only [Int.lt_irrefl, if_false]
        exact evr (Ev.now _) (allFrom_end _ _).symm
      · refine Ev.step (fun k => by rw [spec_HavesOk.l0]) ?_
        rw [allFrom_step _ hi]
        simp only [show (i : Int) < (l.length : Int) by omega, Int.natCast_nonneg, if_true, l26Ok_eq, Option.bind_some]
        unfold havesAt hv
        by_cases hx : haveOk (rd_T30 l i).f0 (rd_T30 l i).f1 (rd_T30 l i).f2 (rd_T30 l i).f3 (rd_T30 l i).f4 = true
        · simp only [hx, if_true, Bool.true_and]
          have inner : ∀ j, j ≤ i → Ev (fun k => spec_HavesOk.l1 k l (i : Int) (j : Int)) (allFrom (other l (rd_T30 l (i : Int)).f4) i j && allFrom (havesAt l) l.length (i + 1)) := by
            refine down _ ?_ (fun j hj ih2 => ?_)
            · refine Ev.step (fun k => by rw [spec_HavesOk.l1]) ?_
              simp only [Int.lt_irrefl, if_false, wsucc (show i < 9223372036854775807 by omega), allFrom_end, Bool.true_and]
              exact ih
            · refine Ev.step (fun k => by rw [spec_HavesOk.l1]) ?_
              rw [allFrom_step _ hj]
              simp only [show (i : Int) < (l.length : Int) by omega, show (j : Int) < (l.length : Int) by omega, show (j : Int) < (i : Int) by omega, Int.natCast_nonneg, if_true, wsucc (show j < 9223372036854775807 by omega)]
              unfold other
              by_cases he : (rd_T30 l (j : Int)).f4 = (rd_T30 l (i : Int)).f4
              · simp only [he, if_true, decide_true, Bool.not_true, Bool.false_and]
                exact Ev.now _
              · simp only [he, if_false, decide_false, Bool.not_false, Bool.true_and]
                exact ih2
          exact inner 0 (by omega)
        · simp only [Bool.not_eq_true] at hx
          simp only [hx, reduceCtorEq, if_false, Bool.false_and]
          exact Ev.now _
    exact key 0 (by omega)

theorem impl_index (l : List S30) (x : S30) (hl : l.length ≤ 1125899906842624) : Ev (fun k => impl_Have_42_43.f k l x.f0 x.f1 x.f2 x.f3 x.f4) (!allFrom (other l x.f4) l.length 0) := by
  unfold impl_Have_42_43.f impl_Have_76_43.f
  have key : ∀ i, i ≤ l.length → ∃ v, Ev (fun k => impl_Have_76_43.l0 k l (l.length : Int) (i : Int) x.f0 x.f1 x.f2 x.f3 x.f4) v ∧ decide (v ≥ 0) = !allFrom (other l x.f4) l.length i := by
    refine down _ ?_ (fun i hi ih => ?_)
    · refine ⟨-1, ?_, by rw [allFrom_end]; rfl⟩
      refine Ev.step (fun k => by rw [impl_Have_76_43.l0]) ?_
      simp only [Int.lt_irrefl, if_false]
      exact Ev.now _
    · obtain ⟨v, hv, hd⟩ := ih
      by_cases he : (rd_T30 l (i : Int)).f4 = x.f4
      · refine ⟨i, ?_, ?_⟩
        · refine Ev.step (fun k => by rw [impl_Have_76_43.l0]) ?_
          simp only [show (i : Int) < (l.length : Int) by omega, Int.natCast_nonneg, if_true, impl_HavesOk_1_c.f, Option.bind_some, he, beq_self_eq_true]
          exact Ev.now _
        · rw [allFrom_step _ hi]
          simp [other, he]
      · refine ⟨v, ?_, ?_⟩
        · refine Ev.step (fun k => by rw [impl_Have_76_43.l0]) ?_
          simp only [show (i : Int) < (l.length : Int) by omega, Int.natCast_nonneg, if_true, impl_HavesOk_1_c.f, Option.bind_some, he, beq_iff_eq, if_false, wsucc (show i < 9223372036854775807 by omega)]
          exact hv
        · rw [allFrom_step _ hi, hd]
          simp [other, he]
  obtain ⟨v, hv, hd⟩ := key 0 (by omega)
  exact evr (Ev.bind hv (Ev.now _)) hd
theorem other_take (l : List S30) (e : Int) (i : Nat) (hi : i ≤ l.length) : allFrom (other (l.take i) e) (l.take i).length 0 = allFrom (other l e) i 0 := by
  rw [List.length_take, Nat.min_eq_left hi]
  refine allFrom_congr (fun j hj => ?_) 0
  unfold other
  rw [rdB (by rw [List.length_take]; omega), rdB (by omega), List.getElem_take]
theorem impl_HavesOk (l : List S30) (hl : l.length ≤ 1125899906842624) : Ev (fun k => impl_HavesOk.f k l) (havesOk l) := by
  unfold impl_HavesOk.f havesOk
  have key : ∀ i, i ≤ l.length → Ev (fun k => impl_HavesOk.l0 k l l (l.length : Int) (i : Int)) (decide (l.length ≤ 12) && allFrom (havesAt l) l.length i) := by
    refine down _ ?_ (fun i hi ih => ?_)
    · refine Ev.step (fun k => by rw [impl_HavesOk.l0]) ?_
      simp only [Int.lt_irrefl, if_false, allFrom_end, Bool.and_true]
      exact evr (Ev.now _) (decide_eq_decide.2 (by omega))
    · refine Ev.step (fun k => by rw [impl_HavesOk.l0]) ?_
      rw [allFrom_step _ hi]
      simp only [show (i : Int) < (l.length : Int) by omega, show (i : Int) ≤ (l.length : Int) by omega, Int.natCast_nonneg, Int.toNat_natCast, if_true, haveOk_eq, Option.bind_some, wsucc (show i < 9223372036854775807 by omega)]
      unfold havesAt hv
      by_cases hx : haveOk (rd_T30 l i).f0 (rd_T30 l i).f1 (rd_T30 l i).f2 (rd_T30 l i).f3 (rd_T30 l i).f4 = true
      · simp only [hx, if_true, Bool.true_and]
        refine Ev.bind (impl_index (l.take i) (rd_T30 l i) (by rw [List.length_take]; omega)) ?_
        rw [other_take l _ i (by omega)]
        by_cases ho : allFrom (other l (rd_T30 l (i : Int)).f4) i 0 = true
        · simp only [ho, Bool.not_true, reduceCtorEq, if_false, Bool.true_and]
          exact ih
        · simp only [Bool.not_eq_true] at ho
          simp only [ho, Bool.not_false, if_true, Bool.false_and, Bool.and_false]
          exact Ev.now _
      · simp only [Bool.not_eq_true] at hx
        simp only [hx, reduceCtorEq, if_false, Bool.false_and, Bool.and_false]
        exact Ev.now _
  exact key 0 (by omega)
end Go.Proofs.Ytceilcdhflcbpaa.Haves

/- Purge: program and reference come to the same. -/
set_option linter.unusedSimpArgs false
namespace Go.Proofs.Ytceilcdhflcbpaa.Haves
open Go.RowKit Go.Proofs.YtceilcdhflcbpaaW.PrintWords Go.Proofs.YtceilcdhflcbpaaW.PrintMore Go.Proofs.Ytceilcdhflcbpaa.K Go.Proofs.Ytceilcdhflcbpaa.XA Go.Proofs.Ytceilcdhflcbpaa.Base Go.Proofs.Ytceilcdhflcbpaa.RHaveS

theorem purge_yes (l : List S30) (a : Int) (hl : l.length ≤ 12) (hok : havesOk l = true) : ∀ i, i ≤ l.length → ∀ acc : List S30, acc.length ≤ i → ∃ r, r.length ≤ l.length ∧ Ev (fun k => spec_Purge.l0 k l a acc (i : Int)) r ∧ Ev (fun k => impl_Purge.l0 k a acc l (l.length : Int) (i : Int)) r := by
  refine down _ (fun acc ha => ⟨acc, ha, ?_, ?_⟩) (fun i hi ih acc ha => ?_)
  · refine Ev.step (fun k => by rw [spec_Purge.l0]) ?_
    simp only [Int.lt_irrefl, if_false]
    refine Ev.step (fun k => by rw [spec_Purge.j1]) ?_
    simp only [reduceCtorEq, if_false]
    exact Ev.now _
  · refine Ev.step (fun k => by rw [impl_Purge.l0]) ?_
    simp only [Int.lt_irrefl, if_false]
    exact Ev.now _
  · by_cases hx : (rd_T30 l (i : Int)).f2 ≥ a
    · obtain ⟨r, hr, hs, hm⟩ := ih (acc ++ [⟨(rd_T30 l (i : Int)).f0, (rd_T30 l (i : Int)).f1, (rd_T30 l (i : Int)).f2, (rd_T30 l (i : Int)).f3, (rd_T30 l (i : Int)).f4⟩]) (by simp only [List.length_append, List.length_singleton]; omega)
      refine ⟨r, hr, ?_, ?_⟩
      · refine Ev.step (fun k => by rw [spec_Purge.l0]) ?_
        simp only [show (i : Int) < (l.length : Int) by omega, if_true]
        refine Ev.bind (spec_HavesOk l (by omega)) ?_
        refine Ev.step (fun k => by rw [spec_Purge.j1]) ?_
        simp only [hok, show (i : Int) < (l.length : Int) by omega, Int.natCast_nonneg, if_true, wsucc (show i < 9223372036854775807 by omega), if_pos hx, show acc.length < 3518437208883 by omega]
        exact hs
      · refine Ev.step (fun k => by rw [impl_Purge.l0]) ?_
        simp only [show (i : Int) < (l.length : Int) by omega, Int.natCast_nonneg, if_true, wsucc (show i < 9223372036854775807 by omega), if_pos hx, show acc.length < 3518437208883 by omega]
        exact hm
    · obtain ⟨r, hr, hs, hm⟩ := ih acc (by omega)
      refine ⟨r, hr, ?_, ?_⟩
      · refine Ev.step (fun k => by rw [spec_Purge.l0]) ?_
        simp only [show (i : Int) < (l.length : Int) by omega, if_true]
        refine Ev.bind (spec_HavesOk l (by omega)) ?_
        refine Ev.step (fun k => by rw [spec_Purge.j1]) ?_
        simp only [hok, show (i : Int) < (l.length : Int) by omega, Int.natCast_nonneg, if_true, wsucc (show i < 9223372036854775807 by omega), if_neg hx]
        exact hs
      · refine Ev.step (fun k => by rw [impl_Purge.l0]) ?_
        simp only [show (i : Int) < (l.length : Int) by omega, Int.natCast_nonneg, if_true, wsucc (show i < 9223372036854775807 by omega), if_neg hx]
        exact hm
theorem Purge (l : List S30) (a : Int) (hl : l.length ≤ 1125899906842624) : ∃ r, r.length ≤ l.length ∧ Ev (fun k => spec_Purge.f k l a) r ∧ Ev (fun k => impl_Purge.f k l a) r := by
  unfold spec_Purge.f impl_Purge.f
  simp only [Option.bind_some]
  by_cases hok : havesOk l = true
  · obtain ⟨r, hr, hs, hm⟩ := purge_yes l a (havesOk_len hok) hok 0 (by omega) [] (by simp)
    refine ⟨r, hr, hs, ?_⟩
    refine Ev.bind (impl_HavesOk l hl) ?_
    simp only [hok, if_true]
    exact hm
  · simp only [Bool.not_eq_true] at hok
    refine ⟨[], by simp, ?_, ?_⟩
    · refine Ev.step (fun k => by rw [spec_Purge.l0]) ?_
      have no : Ev (fun k => spec_Purge.j1 k l a [] 0 false) [] := by
        refine Ev.step (fun k => by rw [spec_Purge.j1]) ?_
        simp only [reduceCtorEq, if_false]
        exact Ev.now _
      by_cases h : (0 : Int) < (l.length : Int)
      · simp only [h, if_true]
        refine Ev.bind (spec_HavesOk l hl) ?_
        rw [hok]
        exact no
      · simp only [h, if_false]
        exact no
    · refine Ev.bind (impl_HavesOk l hl) ?_
      simp only [hok, reduceCtorEq, if_false]
      exact Ev.now _
end Go.Proofs.Ytceilcdhflcbpaa.Haves

set_option linter.unusedSimpArgs false
namespace Go.Proofs.Ytceilcdhflcbpaa.Pure
open Go.RowKit Go.Proofs.Ytceilcdhflcbpaa.XA Go.Proofs.YtceilcdhflcbpaaW.PrintWords Go.Proofs.Ytceilcdhflcbpaa.K Go.Proofs.Ytceilcdhflcbpaa.RHaveS

theorem FnExactPurge : laws_FnExactPurge.Pure := by
  intro l a hm ha
  refine Ev.rounds (g := fun k => laws_FnExactPurge.f k l a) ?_
  unfold laws_FnExactPurge.f laws_szHaveS.f
  have hm8 : l.length ≤ 9223372036854775807 := by have := hm.1; unfold maxLen at this; omega
  rw [w64 (by omega) (by omega)]
  by_cases h : (1048576 : Int) - (l.length : Int) < 0
  · simp only [h, if_true, Option.bind_some, show (-1 : Int) < 0 by omega]
    exact Ev.now _
  · simp only [h, if_false, Option.bind_some]
    have hl : (l.map cv).length ≤ 1048576 := by rw [List.length_map]; omega
    obtain ⟨r, hr, hs, hi⟩ := Haves.Purge (l.map cv) a (by omega)
    refine Ev.bind (toS l (by omega)) ?_
    refine Ev.bind hs ?_
    refine Ev.bind (toS l (by omega)) ?_
    refine Ev.bind hi ?_
    refine Ev.bind (eqS _ (by omega)) ?_
    simp only [if_true]
    refine Ev.bind (toS l (by omega)) ?_
    refine Ev.bind (eqS _ (by omega)) ?_
    simp only [if_true]
    refine Ev.bind (markS _ 1 (by omega) (by omega) (by omega)) ?_
    simp only [show ¬ (1 + ((5 * (l.map cv).length : Nat) : Int)) < 0 by omega, if_false]
    refine Ev.bind (eqS _ (by omega)) ?_
    simp only [if_true]
    refine Ev.bind (markS r 1 (by omega) (by omega) (by omega)) ?_
    have hh : Ev (fun k => laws_heldHaveS.f k (marks 1 r.length) 1) (1 + ((5 * r.length : Nat) : Int)) :=
      evr (heldS (marks 1 r.length) 1 (by rw [marks_length]; omega) (by omega) (by omega) (by rw [marks_length])) (by rw [marks_length])
    refine Ev.bind hh ?_
    simp only [show ¬ (1 + ((5 * r.length : Nat) : Int)) < 0 by omega, if_false, if_true]
    refine Ev.bind (toS l (by omega)) ?_
    refine Ev.bind hi ?_
    refine Ev.bind (eqS _ (by omega)) ?_
    simp only [if_true]
    refine Ev.bind hh ?_
    simp only [show ¬ (1 + ((5 * r.length : Nat) : Int)) < 0 by omega, if_false, if_true]
    exact Ev.now _
end Go.Proofs.Ytceilcdhflcbpaa.Pure

namespace Go.Proofs.Ytceilcdhflcbpaa.fnExactPurge
open Go.ChangeShapes Go.WideShapes Go.ChangeAt Go.RowKit
open Go.ChangeMaps (open_string shut_string)
set_option linter.unusedVariables false
theorem own : ownKnob Try.prog.godebug = none := by kernel_rfl
theorem laidOut : laidOutB Try.prog = true := by kernel_rfl
set_option maxRecDepth 100000 in
theorem lifted (os : Os) (started : os.Started) (H : Type) (enc : TypeId × Value → H) :
    ReturnsInHanded {} Try.checked os 5 .any (Rows.fnExactPurgeSpec.pre6 enc Try.prog Try.f5 Rows.fnExactPurgeRow.domain false) (Rows.fnExactPurgeSpec.post enc Try.prog Try.f5 false true false false) := by
  refine returnsInHanded_of_change_sized (C := Try.checked) own started (by kernel_rfl) Try.func5
    (ChangeSpec.witness6 (enc := enc) (C := Try.checked) false ⟨#[], #[.slice none 0 0, .int .i64 0], []⟩ 8 (by kernel_rfl) (by kernel_rfl) (by kernel_rfl) (by kernel_rfl)) ?_
  intro W base args ds gs before hval0 hW hcnd hsz0 _
  have hval : ∀ (j : Nat) t v, Try.f5.params[j]? = some t → args[j]? = some v → Value.okWide Try.prog W .any base t v := hval0
  have hW' := hW
  obtain ⟨p, q, hA0, hV, rfl, hfz, hnd⟩ := hW
  have hA : DataW.TrodAll enc Try.prog W 0 (fun _ => true) true Try.f5.params.toList args.toList ds p := hA0
  rw [Try.params5] at hA hval
  obtain ⟨v0, vs0, d0, ds0, p0, q0, hargs, rfl, rfl, h0, r0⟩ := trodAll_cons hA
  obtain ⟨v1, vs1, d1, ds1, p1, q1, rfl, rfl, rfl, h1, r1⟩ := trodAll_cons r0
  obtain ⟨rfl, rfl, rfl⟩ := trodAll_nil r1
  obtain rfl : args = #[v0, v1] := by cases args; simp_all
  obtain ⟨rfl, rfl⟩ := trodVars_none hV
  have k0 := h0
  have lt0 : ∀ x ∈ p0, x.block < W.heap.size := by obtain ⟨m, hm⟩ := k0; exact DataW.trod_lt m _ _ _ hm
  obtain ⟨a0, len0, cap0, rfl⟩ := okWide_slice Try.underlying22 (hval 0 22 v0 rfl rfl)
  obtain ⟨z0, ⟨A0, c0, hcs0, hl0, hC0⟩, ok0⟩ := O.Opens.of_trod (O.Opens.slice (t := 22) (e := 38) Try.underlying22 (by kernel_rfl) XA.op38) h0
  simp [Value.cells] at hcs0
  obtain ⟨rfl, rfl, rfl⟩ := hcs0
  have k1 := h1
  have lt1 : ∀ x ∈ p1, x.block < W.heap.size := by obtain ⟨m, hm⟩ := k1; exact DataW.trod_lt m _ _ _ hm
  obtain ⟨b1, rfl⟩ := okWide_int Try.underlying3 (hval 1 3 v1 rfl rfl)
  obtain ⟨z1, hcs1, ok1⟩ := O.Opens.of_trod (O.Opens.int (k := .i64) (t := 3) Try.underlying3 (by kernel_rfl)) h1
  have hcs1' : [_] = [_] := hcs1
  injection hcs1' with hcs1' _
  injection hcs1' with _ hz1
  subst hz1
  clear hA0 hval0 hsz0
  refine (XA.laws_FnExactPurge.walk Pure.FnExactPurge _ _ z0 _ W hC0 hl0 ok0 ok1).mono fun e W' ⟨he, bel⟩ => ?_
  subst he
  exact ⟨_, rfl, _, _, _, [], _, [], hW', trodAll_mk1 (shut_bool Try.underlying4 _), (trodAll_cons_mk (Below.trod laidOut (by kernel_rfl) (of_decide_eq_true (by kernel_rfl)) k0 bel lt0) (trodAll_cons_mk (Below.trod laidOut (by kernel_rfl) (of_decide_eq_true (by kernel_rfl)) k1 bel lt1) trodAll_mk0)), rfl, bel.frame _, fun h => by cases h⟩
theorem over : Rows.fnExactPurgeRow.holds Try.pinned (OpenSpec.ofChange Rows.fnExactPurgeSpec) :=
  OpenClaim.holds_of_wide 5 Try.f5 rfl rfl rfl rfl rfl rfl rfl ⟨rfl, rfl, rfl, rfl, rfl⟩ rfl rfl rfl rfl rfl (by kernel_rfl) Try.func5 (by kernel_rfl)
    (of_decide_eq_true (by kernel_rfl)) (by unfold Func.isWrapper; first | (rw [if_pos (by decide +kernel)]; kernel_rfl) | (rw [if_neg (by decide +kernel)]; exact ⟨rfl, rfl⟩))
    (fun os started H enc _ => lifted os started H enc)
theorem proved : Rows.FnExactPurgeSaid := over
#print axioms proved
end Go.Proofs.Ytceilcdhflcbpaa.fnExactPurge
namespace Go.Proofs.Ytceilcdhflcbpaa
/-- The row, under a short name, for the claim. -/
theorem fnExactPurge_holds : Rows.FnExactPurgeSaid := fnExactPurge.proved
end Go.Proofs.Ytceilcdhflcbpaa
