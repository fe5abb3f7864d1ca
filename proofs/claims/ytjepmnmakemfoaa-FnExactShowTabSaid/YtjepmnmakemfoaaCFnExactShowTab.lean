/- The program's ShowTab writes what the reference's writes, for every table, and leaves the table as it was. Conditions: none beside those of the given row. -/
import Derived.Test.YtjepmnmakemfoaaXA0
import Derived.Test.YtjepmnmakemfoaaXAf52
import Derived.Test.YtjepmnmakemfoaaXAf55
import Derived.Test.YtjepmnmakemfoaaXAf56
import Derived.Test.YtjepmnmakemfoaaXAf17
import Derived.Test.YtjepmnmakemfoaaXAf19
import Derived.Test.YtjepmnmakemfoaaXAf24
import Derived.Test.YtjepmnmakemfoaaXAf29
import Derived.Test.YtjepmnmakemfoaaXAf30
import Derived.Test.YtjepmnmakemfoaaXAf53
import Derived.Test.YtjepmnmakemfoaaXAf16
import Derived.Test.YtjepmnmakemfoaaXAf18
import Derived.Test.YtjepmnmakemfoaaXAf54
import Derived.Test.YtjepmnmakemfoaaXAf57
import Derived.Test.YtjepmnmakemfoaaXAf58
import Derived.Test.YtjepmnmakemfoaaXAv1
import Derived.Test.YtjepmnmakemfoaaXAv2
import Derived.Test.YtjepmnmakemfoaaXAv3
import Derived.Test.YtjepmnmakemfoaaXAf59
import Derived.Test.YtjepmnmakemfoaaXAf60
import Derived.Test.YtjepmnmakemfoaaXAf25
import Derived.Test.YtjepmnmakemfoaaXAf26
import Derived.Test.YtjepmnmakemfoaaXAf15
import Derived.Test.YtjepmnmakemfoaaXAf6
import Derived.Test.YtjepmnmakemfoaaRows
import Derived.WalkKit
import Derived.ProofKit
import Derived.OpenShut
import Derived.ShutString
import Derived.ChangeOld
import Derived.Below
import Derived.SizedLaws
import Derived.Carry
/- Small lemmas on loops with rounds, on numbers that wrap round and on lists: what all pure laws of this seat use. -/
namespace Go.Proofs.Ytjepmnmakemfoaa.K
open Go.RowKit Go.Proofs.YtjepmnmakemfoaaW.PrintWords

theorem w64 {n : Int} (h0 : -9223372036854775808 ≤ n) (h1 : n ≤ 9223372036854775807) : wrap64 n = n := by
  unfold wrap64
  omega
theorem wsucc {i : Nat} (h : i < 9223372036854775807) : wrap64 ((i : Int) + 1) = ((i + 1 : Nat) : Int) := by
  unfold wrap64
  omega
theorem wadd1 {i : Int} (h0 : -1 ≤ i) (h : i < 9223372036854775807) : wrap64 (i + 1) = i + 1 := by
  unfold wrap64
  omega
theorem rdn (l : List Int) (i : Nat) : rd l (i : Int) = l.getD i 0 := rfl
theorem rd_get {l : List Int} {i : Nat} (h : i < l.length) : rd l (i : Int) = l[i] := by
  rw [rdn, List.getD_eq_getElem?_getD, List.getElem?_eq_getElem h]
  rfl
theorem wf_rd {l : List Int} (hw : ∀ x ∈ l, (Lit.int .i64 x).wf = true) (i : Int) : -9223372036854775808 ≤ rd l i ∧ rd l i ≤ 9223372036854775807 := by
  unfold rd
  rw [List.getD_eq_getElem?_getD]
  rcases h : l[i.toNat]? with _ | x
  · simp
  · have := hw x (List.mem_of_getElem? h)
    simp [Lit.wf, IntKind.min, IntKind.max, IntKind.signed, IntKind.bits] at this
    simpa using this
theorem wf_int {x : Int} (h : (Lit.int .i64 x).wf = true) : -9223372036854775808 ≤ x ∧ x ≤ 9223372036854775807 := by
  simp [Lit.wf, IntKind.min, IntKind.max, IntKind.signed, IntKind.bits] at h
  exact h
/-- From the last round back to the first. -/
theorem down {P : Nat → Prop} (n : Nat) (hend : P n) (hstep : ∀ i, i < n → P (i + 1) → P i) : ∀ i, i ≤ n → P i := by
  intro i hi
  obtain ⟨d, rfl⟩ : ∃ d, n = i + d := ⟨n - i, by omega⟩
  clear hi
  induction d generalizing i with
  | zero => exact hend
  | succ d ih => exact hstep i (by omega) (ih (i + 1) (by rw [show i + 1 + d = i + (d + 1) by omega]; exact hend) (fun j hj => hstep j (by omega)))
theorem evr {α : Type} {g : Nat → Option α} {r r' : α} (h : Ev g r) (e : r = r') : Ev g r' := e ▸ h
theorem evc {α : Type} {o : Option α} {r : α} (h : o = some r) : Ev (fun _ => o) r := ⟨0, fun _ _ => h⟩
theorem evu {α : Type} {g : Nat → Option α} {r r' : α} (h : Ev g r) (h' : Ev g r') : r = r' := by
  obtain ⟨K, h⟩ := h
  obtain ⟨K', h'⟩ := h'
  have h1 := h (max K K') (by omega)
  have h2 := h' (max K K') (by omega)
  rw [h1] at h2
  exact Option.some.inj h2
theorem drop_eq_iff {α : Type} {a b : List α} {i : Nat} (hi : i < a.length) (hj : i < b.length) : a.drop i = b.drop i ↔ a[i] = b[i] ∧ a.drop (i + 1) = b.drop (i + 1) := by
  rw [List.drop_eq_getElem_cons hi, List.drop_eq_getElem_cons hj, List.cons.injEq]
end Go.Proofs.Ytjepmnmakemfoaa.K

/- A test of each place of a list, from one on. -/
namespace Go.Proofs.Ytjepmnmakemfoaa.K
/-- A test of each place from i on. -/
def allFrom (q : Nat → Bool) (n i : Nat) : Bool := (List.range' i (n - i)).all q
theorem allFrom_end (q : Nat → Bool) (n : Nat) : allFrom q n n = true := by simp [allFrom]
theorem allFrom_step (q : Nat → Bool) {n i : Nat} (h : i < n) : allFrom q n i = (q i && allFrom q n (i + 1)) := by
  unfold allFrom
  rw [show n - i = (n - (i + 1)) + 1 by omega, List.range'_succ, List.all_cons]
theorem allFrom_iff (q : Nat → Bool) (n i : Nat) : allFrom q n i = true ↔ ∀ j, i ≤ j → j < n → q j = true := by
  unfold allFrom
  rw [List.all_eq_true]
  refine ⟨fun h j h1 h2 => h j (List.mem_range'_1.2 (by omega)), fun h j hj => ?_⟩
  have := List.mem_range'_1.1 hj
  exact h j (by omega) (by omega)
theorem allFrom_congr {q q' : Nat → Bool} {n : Nat} (h : ∀ j, j < n → q j = q' j) (i : Nat) : allFrom q n i = allFrom q' n i := by
  rw [Bool.eq_iff_iff, allFrom_iff, allFrom_iff]
  exact ⟨fun k j h1 h2 => (h j h2) ▸ k j h1 h2, fun k j h1 h2 => (h j h2).symm ▸ k j h1 h2⟩
end Go.Proofs.Ytjepmnmakemfoaa.K

/- Tests of bounds, in the program and in the reference. -/
namespace Go.Proofs.Ytjepmnmakemfoaa.Base
open Go.RowKit Go.Proofs.YtjepmnmakemfoaaW.PrintWords Go.Proofs.YtjepmnmakemfoaaW.PrintMore Go.Proofs.Ytjepmnmakemfoaa.K Go.Proofs.Ytjepmnmakemfoaa.XA

theorem l1In_eq (a b c : Int) : spec_l1In.f a b c = some (decide (b ≤ a ∧ a ≤ c)) := by
  unfold spec_l1In.f
  by_cases h : a ≥ b
  · rw [if_pos h]
    simp [show b ≤ a from h]
  · rw [if_neg h]
    simp [show ¬ b ≤ a from h]
theorem within_eq (a b c : Int) : impl_within.f a b c = some (decide (b ≤ a ∧ a ≤ c)) := by
  unfold impl_within.f
  by_cases h : a ≥ b
  · rw [if_pos h]
    simp [show b ≤ a from h]
  · rw [if_neg h]
    simp [show ¬ b ≤ a from h]
theorem isKey_eq (a : Int) : impl_isKey.f a = some (decide (1 ≤ a ∧ a ≤ 1000000)) := by
  unfold impl_isKey.f
  rw [within_eq]
  rfl
end Go.Proofs.Ytjepmnmakemfoaa.Base

/- What the laws' helpers on lists of records come to (printed by wip/rowsgen.py): a copy is the list, a list is like itself, marks are found again. -/
set_option linter.unusedSimpArgs false
namespace Go.Proofs.Ytjepmnmakemfoaa.RSlotS
open Go.RowKit Go.Proofs.YtjepmnmakemfoaaW.PrintWords Go.Proofs.YtjepmnmakemfoaaW.PrintMore Go.Proofs.Ytjepmnmakemfoaa.K Go.Proofs.Ytjepmnmakemfoaa.XA

theorem rdA {l : List S73} {i : Nat} (h : i < l.length) : rd_T73 l (i : Int) = l[i] := by
  unfold rd_T73
  rw [Int.toNat_natCast, List.getD_eq_getElem?_getD, List.getElem?_eq_getElem h]
  rfl
theorem rdB {l : List S33} {i : Nat} (h : i < l.length) : rd_T33 l (i : Int) = l[i] := by
  unfold rd_T33
  rw [Int.toNat_natCast, List.getD_eq_getElem?_getD, List.getElem?_eq_getElem h]
  rfl
def cv (x : S73) : S33 := ⟨x.f0, x.f1, x.f2⟩
theorem toS (l : List S73) (hl : l.length ≤ 11728124029610) : Ev (fun k => laws_toSlotS.f k l) (l.map cv) := by
  unfold laws_toSlotS.f
  simp only [Int.natCast_nonneg, Int.toNat_natCast, hl, if_true]
  have key : ∀ i, i ≤ l.length → ∀ acc : List S33, acc.length = l.length → Ev (fun k => laws_toSlotS.l0 k l acc (i : Int)) (acc.take i ++ (l.map cv).drop i) := by
    refine down _ (fun acc ha => ?_) (fun i hi ih acc ha => ?_)
    · refine Ev.step (fun k => by rw [laws_toSlotS.l0]) ?_
      simp only [Int.lt_irrefl, if_false]
      exact evr (Ev.now _) (by simp [← ha])
    · refine Ev.step (fun k => by rw [laws_toSlotS.l0]) ?_
      have h1 : (i : Int) < (l.length : Int) := by omega
      have h2 : (i : Int) < (acc.length : Int) := by omega
      simp only [h1, h2, Int.natCast_nonneg, if_true, wsucc (show i < 9223372036854775807 by omega), Int.toNat_natCast, rdA hi, laws_toSlot.f, Option.bind_some]
      refine evr (ih (acc.set i (cv l[i])) (by simp [ha])) ?_
      rw [List.take_succ_eq_append_getElem (by simp; omega), List.getElem_set_self, List.take_set_of_le (by omega), List.append_assoc, List.drop_eq_getElem_cons (l := l.map cv) (i := i) (by simpa using hi), List.getElem_map]
      rfl
  refine evr (key 0 (by omega) _ (by simp)) (by simp)
theorem eqS (a : List S33) (hb : a.length < 9223372036854775807) : Ev (fun k => laws_eqSlotS.f k a a) true := by
  unfold laws_eqSlotS.f
  simp only [if_true]
  have key : ∀ i, i ≤ a.length → Ev (fun k => laws_eqSlotS.l0 k a a (i : Int)) true := by
    refine down _ ?_ (fun i hi ih => ?_)
    · refine Ev.step (fun k => by rw [laws_eqSlotS.l0]) ?_
      simp only [Int.lt_irrefl, if_false]
      exact Ev.now _
    · refine Ev.step (fun k => by rw [laws_eqSlotS.l0]) ?_
      simp only [show (i : Int) < (a.length : Int) by omega, Int.natCast_nonneg, if_true, wsucc (show i < 9223372036854775807 by omega), laws_eqSlot.f, Option.bind_some, decide_true, beq_self_eq_true]
      exact ih
  exact key 0 (by omega)
def mk (k : Int) (i : Nat) : S33 := ⟨k + ((3 * i + 0 : Nat) : Int), k + ((3 * i + 1 : Nat) : Int), k + ((3 * i + 2 : Nat) : Int)⟩
def marks (k : Int) (n : Nat) : List S33 := (List.range n).map (mk k)
theorem marks_length (k : Int) (n : Nat) : (marks k n).length = n := by simp [marks]
theorem marks_get (k : Int) (n i : Nat) (h : i < n) : (marks k n)[i]'(by rw [marks_length]; exact h) = mk k i := by simp [marks]
theorem setget (l : List S33) (i : Nat) (x : S33) (h : i < l.length) : rd_T33 (l.set i x) (i : Int) = x := by
  rw [rdB (by simpa using h)]
  simp
theorem markS (l : List S33) (m : Int) (hl : l.length ≤ 1125899906842) (h0 : 0 ≤ m) (h1 : m ≤ 1125899906842624) : Ev (fun k => laws_markSlotS.f k l m) (m + ((3 * l.length : Nat) : Int), marks m l.length) := by
  unfold laws_markSlotS.f
  have key : ∀ i, i ≤ l.length → ∀ acc : List S33, acc.length = l.length → acc.take i = (marks m l.length).take i → Ev (fun k => laws_markSlotS.l0 k acc (m + ((3 * i : Nat) : Int)) (i : Int)) (m + ((3 * l.length : Nat) : Int), marks m l.length) := by
    refine down _ (fun acc ha hp => ?_) (fun i hi ih acc ha hp => ?_)
    · refine Ev.step (fun k => by rw [laws_markSlotS.l0]) ?_
      simp only [ha, Int.lt_irrefl, if_false]
      refine evr (Ev.now _) ?_
      rw [List.take_of_length_le (by omega), List.take_of_length_le (by rw [marks_length]; omega)] at hp
      rw [hp]
    · refine Ev.step (fun k => by rw [laws_markSlotS.l0]) ?_
      have h2 : (i : Int) < (acc.length : Int) := by omega
      have h3 : i < acc.length := by omega
      have s : ∀ n : Nat, n ≤ 3 * l.length → wrap64 (m + (n : Int) + 1) = m + ((n + 1 : Nat) : Int) := fun n hn => by rw [w64 (by omega) (by omega)]; omega
      simp only [h2, Int.natCast_nonneg, if_true, wsucc (show i < 9223372036854775807 by omega), Int.toNat_natCast, Option.bind_some, setget _ _ _ (show i < acc.length from h3), List.set_set, setget]
      simp only [s (3 * i) (by omega), s (3 * i + 1) (by omega), s (3 * i + 2) (by omega)]
      rw [show m + ((3 * i + 2 + 1 : Nat) : Int) = m + ((3 * (i + 1) : Nat) : Int) by omega]
      refine ih _ (by simp [ha]) ?_
      rw [List.take_succ_eq_append_getElem (by simp; omega), List.take_succ_eq_append_getElem (by rw [marks_length]; omega), List.getElem_set_self, List.take_set_of_le (by omega), hp, marks_get _ _ _ hi]
      rfl
  have := key 0 (by omega) l rfl (by simp)
  simpa using this
theorem heldS (l : List S33) (m : Int) (hl : l.length ≤ 1125899906842) (h0 : 0 ≤ m) (h1 : m ≤ 1125899906842624) (he : l = marks m l.length) : Ev (fun k => laws_heldSlotS.f k l m) (m + ((3 * l.length : Nat) : Int)) := by
  unfold laws_heldSlotS.f
  have key : ∀ i, i ≤ l.length → Ev (fun k => laws_heldSlotS.l0 k l (m + ((3 * i : Nat) : Int)) (i : Int)) (m + ((3 * l.length : Nat) : Int)) := by
    refine down _ ?_ (fun i hi ih => ?_)
    · refine Ev.step (fun k => by rw [laws_heldSlotS.l0]) ?_
      simp only [Int.lt_irrefl, if_false]
      exact Ev.now _
    · refine Ev.step (fun k => by rw [laws_heldSlotS.l0]) ?_
      have h2 : (i : Int) < (l.length : Int) := by omega
      have h3 : l[i] = mk m i := by
        have := marks_get m l.length i hi
        simp only [← he] at this
        exact this
      have s : ∀ n : Nat, n ≤ 3 * l.length → wrap64 (m + (n : Int) + 1) = m + ((n + 1 : Nat) : Int) := fun n hn => by rw [w64 (by omega) (by omega)]; omega
      simp only [h2, Int.natCast_nonneg, if_true, wsucc (show i < 9223372036854775807 by omega), rdB hi, h3, mk, Nat.add_zero]
      simp only [s (3 * i) (by omega), s (3 * i + 1) (by omega), s (3 * i + 2) (by omega), if_true]
      rw [show m + ((3 * i + 2 + 1 : Nat) : Int) = m + ((3 * (i + 1) : Nat) : Int) by omega]
      exact ih
  have := key 0 (by omega)
  simpa using this
end Go.Proofs.Ytjepmnmakemfoaa.RSlotS

/- What the functions on key tables come to, in the program and in the reference alike. -/
set_option linter.unusedSimpArgs false
namespace Go.Proofs.Ytjepmnmakemfoaa.Tabs
open Go.RowKit Go.Proofs.YtjepmnmakemfoaaW.PrintWords Go.Proofs.YtjepmnmakemfoaaW.PrintMore Go.Proofs.Ytjepmnmakemfoaa.K Go.Proofs.Ytjepmnmakemfoaa.XA Go.Proofs.Ytjepmnmakemfoaa.Base Go.Proofs.Ytjepmnmakemfoaa.RSlotS

theorem isWho_eq (a : Int) : impl_isWho.f a = some (decide (0 ≤ a ∧ a ≤ 99)) := by
  unfold impl_isWho.f
  rw [within_eq]
  rfl
def fieldsOk (x : S33) : Bool := decide (0 ≤ x.f0 ∧ x.f0 ≤ 99) && (decide (1 ≤ x.f1 ∧ x.f1 ≤ 1000) && decide (1 ≤ x.f2 ∧ x.f2 ≤ 1000000))
def late (p x : S33) : Bool := decide (p.f0 > x.f0 ∨ (p.f0 = x.f0 ∧ p.f1 ≥ x.f1))
def other (l : List S33) (e : Int) (j : Nat) : Bool := !decide ((rd_T33 l (j : Int)).f2 = e)
def slotAt (l : List S33) (i : Nat) : Bool := fieldsOk (rd_T33 l (i : Int)) && (!(decide (0 < i) && late (rd_T33 l ((i - 1 : Nat) : Int)) (rd_T33 l (i : Int))) && allFrom (other l (rd_T33 l (i : Int)).f2) i 0)
def tabOk (l : List S33) : Bool := decide (l.length ≤ 20) && allFrom (slotAt l) l.length 0
theorem tabOk_len {l : List S33} (h : tabOk l = true) : l.length ≤ 20 := by
  unfold tabOk at h
  rw [Bool.and_eq_true, decide_eq_true_eq] at h
  exact h.1
theorem pred_cast {i : Nat} (h : 0 < i) (hi : i < 9223372036854775807) : wrap64 ((i : Int) - 1) = ((i - 1 : Nat) : Int) := by
  rw [w64 (by omega) (by omega)]
  omega
theorem spec_inner (l : List S33) (i : Nat) (hi : i < l.length) (hl : l.length ≤ 1125899906842624) (b : Bool)
    (ih : Ev (fun k => spec_TabOk.l0 k l ((i + 1 : Nat) : Int)) (allFrom (slotAt l) l.length (i + 1))) (x y z : Int) :
    Ev (fun k => spec_TabOk.j1 k l (i : Int) b x y z) (!b && allFrom (other l z) i 0 && allFrom (slotAt l) l.length (i + 1)) := by
  refine Ev.step (fun k => by rw [spec_TabOk.j1]) ?_
  cases b
  · simp only [reduceCtorEq, if_false, Bool.not_false, Bool.true_and]
    have inner : ∀ j, j ≤ i → Ev (fun k => spec_TabOk.l1 k l (i : Int) (j : Int) x y z) (allFrom (other l z) i j && allFrom (slotAt l) l.length (i + 1)) := by
      refine down _ ?_ (fun j hj ih2 => ?_)
      · refine Ev.step (fun k => by rw [spec_TabOk.l1]) ?_
        simp only [Int.lt_irrefl, if_false, wsucc (show i < 9223372036854775807 by omega), allFrom_end, Bool.true_and]
        exact ih
      · refine Ev.step (fun k => by rw [spec_TabOk.l1]) ?_
        rw [allFrom_step _ hj]
        simp only [show (j : Int) < (l.length : Int) by omega, show (j : Int) < (i : Int) by omega, Int.natCast_nonneg, if_true, wsucc (show j < 9223372036854775807 by omega)]
        unfold other
        by_cases he : (rd_T33 l (j : Int)).f2 = z
        · simp only [he, if_true, decide_true, Bool.not_true, Bool.false_and]
          exact Ev.now _
        · simp only [he, if_false, decide_false, Bool.not_false, Bool.true_and]
          exact ih2
    exact inner 0 (by omega)
  · simp only [if_true, Bool.not_true, Bool.false_and]
    exact Ev.now _
theorem spec_TabOk (l : List S33) (hl : l.length ≤ 1125899906842624) : Ev (fun k => spec_TabOk.f k l) (tabOk l) := by
  unfold spec_TabOk.f tabOk
  by_cases h : (l.length : Int) > 20
  · simp only [h, if_true, show ¬ l.length ≤ 20 by omega, decide_false, Bool.false_and]
    exact Ev.now _
  · simp only [h, if_false, show l.length ≤ 20 by omega, decide_true, Bool.true_and]
    have key : ∀ i, i ≤ l.length → Ev (fun k => spec_TabOk.l0 k l (i : Int)) (allFrom (slotAt l) l.length i) := by
      refine down _ ?_ (fun i hi ih => ?_)
      · refine Ev.step (fun k => by rw [spec_TabOk.l0]) ?_
        simp only [Int.lt_irrefl, if_false]
        exact evr (Ev.now _) (allFrom_end _ _).symm
      · refine Ev.step (fun k => by rw [spec_TabOk.l0]) ?_
        rw [allFrom_step _ hi]
        simp only [show (i : Int) < (l.length : Int) by omega, Int.natCast_nonneg, if_true, l1In_eq, Option.bind_some]
        have J := fun b => spec_inner l i hi hl b ih (rd_T33 l (i : Int)).f0 (rd_T33 l (i : Int)).f1 (rd_T33 l (i : Int)).f2
        unfold slotAt fieldsOk
        by_cases h1 : 0 ≤ (rd_T33 l (i : Int)).f0 ∧ (rd_T33 l (i : Int)).f0 ≤ 99
        · by_cases h2 : 1 ≤ (rd_T33 l (i : Int)).f1 ∧ (rd_T33 l (i : Int)).f1 ≤ 1000
          · by_cases h3 : 1 ≤ (rd_T33 l (i : Int)).f2 ∧ (rd_T33 l (i : Int)).f2 ≤ 1000000
            · simp only [h1, h2, h3, and_self, decide_true, if_true, Bool.true_and]
              by_cases h0 : 0 < i
              · simp only [show (i : Int) > 0 by omega, if_true, pred_cast h0 (show i < 9223372036854775807 by omega), Int.natCast_nonneg, show ((i - 1 : Nat) : Int) < (l.length : Int) by omega, h0, decide_true, Bool.true_and, late]
                by_cases g1 : (rd_T33 l ((i - 1 : Nat) : Int)).f0 > (rd_T33 l (i : Int)).f0
                · simp only [g1, if_true, true_or, decide_true]
                  exact J true
                · simp only [g1, if_false, false_or]
                  by_cases g2 : (rd_T33 l ((i - 1 : Nat) : Int)).f0 = (rd_T33 l (i : Int)).f0
                  · simp only [g2, if_true, true_and]
                    exact J _
                  · simp only [g2, if_false, false_and, decide_false]
                    exact J false
              · simp only [show ¬ (i : Int) > 0 by omega, if_false, h0, decide_false, Bool.false_and]
                exact J false
            · simp only [h1, h2, h3, and_self, decide_true, decide_false, if_true, if_false, reduceCtorEq, Bool.and_false, Bool.false_and]
              exact evr (J true) (by simp)
          · simp only [h1, h2, and_self, decide_true, decide_false, if_true, if_false, reduceCtorEq, Bool.and_false, Bool.false_and]
            exact evr (J true) (by simp)
        · simp only [h1, decide_false, if_false, reduceCtorEq, Bool.and_false, Bool.false_and]
          exact evr (J true) (by simp)
    exact key 0 (by omega)

theorem hasKey (l : List S33) (e : Int) (hl : l.length ≤ 1125899906842624) : Ev (fun k => impl_hasKey.f k l e) (!allFrom (other l e) l.length 0) := by
  unfold impl_hasKey.f impl_Slot_85_86.f impl_Slot_96_86.f
  have key : ∀ i, i ≤ l.length → ∃ v, Ev (fun k => impl_Slot_96_86.l0 k l (l.length : Int) (i : Int) e) v ∧ decide (v ≥ 0) = !allFrom (other l e) l.length i := by
    refine down _ ?_ (fun i hi ih => ?_)
    · refine ⟨-1, ?_, by rw [allFrom_end]; rfl⟩
      refine Ev.step (fun k => by rw [impl_Slot_96_86.l0]) ?_
      simp only [Int.lt_irrefl, if_false]
      exact Ev.now _
    · obtain ⟨v, hv, hd⟩ := ih
      by_cases he : (rd_T33 l (i : Int)).f2 = e
      · refine ⟨i, ?_, ?_⟩
        · refine Ev.step (fun k => by rw [impl_Slot_96_86.l0]) ?_
          simp only [show (i : Int) < (l.length : Int) by omega, Int.natCast_nonneg, if_true, impl_hasKey_1_c.f, Option.bind_some, he, beq_self_eq_true]
          exact Ev.now _
        · rw [allFrom_step _ hi]
          simp [other, he]
      · refine ⟨v, ?_, ?_⟩
        · refine Ev.step (fun k => by rw [impl_Slot_96_86.l0]) ?_
          simp only [show (i : Int) < (l.length : Int) by omega, Int.natCast_nonneg, if_true, impl_hasKey_1_c.f, Option.bind_some, he, beq_iff_eq, if_false, wsucc (show i < 9223372036854775807 by omega)]
          exact hv
        · rw [allFrom_step _ hi, hd]
          simp [other, he]
  obtain ⟨v, hv, hd⟩ := key 0 (by omega)
  exact evr (Ev.bind (Ev.bind hv (Ev.now _)) (Ev.now _)) hd
theorem other_take (l : List S33) (e : Int) (i : Nat) (hi : i ≤ l.length) : allFrom (other (l.take i) e) (l.take i).length 0 = allFrom (other l e) i 0 := by
  rw [List.length_take, Nat.min_eq_left hi]
  refine allFrom_congr (fun j hj => ?_) 0
  unfold other
  rw [rdB (by rw [List.length_take]; omega), rdB (by omega), List.getElem_take]
theorem hasKey_take (l : List S33) (e : Int) (i : Nat) (hi : i ≤ l.length) (hl : l.length ≤ 1125899906842624) : Ev (fun k => impl_hasKey.f k (l.take i) e) (!allFrom (other l e) i 0) :=
  evr (hasKey (l.take i) e (by rw [List.length_take]; omega)) (by rw [other_take l e i hi])
theorem compare_eq (p x : S33) (hp : fieldsOk p = true) (hx : fieldsOk x = true) : ∃ v, impl_compareSlots.f p.f0 p.f1 p.f2 x.f0 x.f1 x.f2 = some v ∧ decide (v ≥ 0) = late p x := by
  unfold fieldsOk at hp hx
  simp only [Bool.and_eq_true, decide_eq_true_eq] at hp hx
  unfold impl_compareSlots.f late
  by_cases h : p.f0 = x.f0
  · refine ⟨_, by rw [if_pos h], ?_⟩
    rw [w64 (by omega) (by omega)]
    exact decide_eq_decide.2 (by omega)
  · refine ⟨_, by rw [if_neg h], ?_⟩
    rw [w64 (by omega) (by omega)]
    exact decide_eq_decide.2 (by omega)
theorem impl_j (l : List S33) (i : Nat) (hi : i < l.length) (hl : l.length ≤ 1125899906842624) (b : Bool) (r : Bool)
    (ih : Ev (fun k => impl_TabOk.l0 k l l (l.length : Int) ((i + 1 : Nat) : Int)) r) :
    Ev (fun k => impl_TabOk.j1 k l l (l.length : Int) (i : Int) b) (!b && r) := by
  refine Ev.step (fun k => by rw [impl_TabOk.j1]) ?_
  cases b
  · simp only [reduceCtorEq, if_false, Bool.not_false, Bool.true_and, wsucc (show i < 9223372036854775807 by omega)]
    exact ih
  · simp only [if_true, Bool.not_true, Bool.false_and]
    exact Ev.now _
theorem impl_TabOk (l : List S33) (hl : l.length ≤ 1125899906842624) : Ev (fun k => impl_TabOk.f k l) (tabOk l) := by
  unfold impl_TabOk.f tabOk
  have key : ∀ i, i ≤ l.length → (∀ j, j < i → fieldsOk (rd_T33 l (j : Int)) = true) → Ev (fun k => impl_TabOk.l0 k l l (l.length : Int) (i : Int)) (decide (l.length ≤ 20) && allFrom (slotAt l) l.length i) := by
    refine down _ (fun _ => ?_) (fun i hi ih hb => ?_)
    · refine Ev.step (fun k => by rw [impl_TabOk.l0]) ?_
      simp only [Int.lt_irrefl, if_false, allFrom_end, Bool.and_true]
      exact evr (Ev.now _) (decide_eq_decide.2 (by omega))
    · have no : ∀ r, (decide (l.length ≤ 20) && (false && r)) = (!true && r) := fun r => by simp
      have J0 : Ev (fun k => impl_TabOk.j1 k l l (l.length : Int) (i : Int) true) false := by
        refine Ev.step (fun k => by rw [impl_TabOk.j1]) ?_
        simp only [if_true]
        exact Ev.now _
      refine Ev.step (fun k => by rw [impl_TabOk.l0]) ?_
      rw [allFrom_step _ hi]
      simp only [show (i : Int) < (l.length : Int) by omega, show (i : Int) ≤ (l.length : Int) by omega, Int.natCast_nonneg, Int.toNat_natCast, if_true, isWho_eq, isKey_eq, within_eq, Option.bind_some]
      by_cases hf : fieldsOk (rd_T33 l (i : Int)) = true
      · have J := fun b => impl_j l i hi hl b _ (ih (fun j hj => by
          rcases Nat.lt_or_ge j i with h | h
          · exact hb j h
          · rw [show j = i by omega]
            exact hf))
        have hf2 := hf
        unfold fieldsOk at hf2
        simp only [Bool.and_eq_true, decide_eq_true_eq] at hf2
        simp only [hf2.1, hf2.2.1, hf2.2.2, and_self, decide_true, if_true]
        rw [show slotAt l i = (!(decide (0 < i) && late (rd_T33 l ((i - 1 : Nat) : Int)) (rd_T33 l (i : Int))) && allFrom (other l (rd_T33 l (i : Int)).f2) i 0) by
          unfold slotAt
          rw [hf, Bool.true_and]]
        by_cases h0 : 0 < i
        · simp only [show (i : Int) > 0 by omega, if_true, pred_cast h0 (show i < 9223372036854775807 by omega), Int.natCast_nonneg, show ((i - 1 : Nat) : Int) < (l.length : Int) by omega, h0, decide_true, Bool.true_and]
          obtain ⟨v, hv, hd⟩ := compare_eq _ _ (hb (i - 1) (by omega)) hf
          simp only [hv, Option.bind_some]
          by_cases hv0 : v ≥ 0
          · simp only [hv0, if_true]
            rw [← hd]
            exact evr J0 (by simp [hv0])
          · simp only [hv0, if_false]
            rw [← hd]
            simp only [hv0, decide_false, Bool.not_false, Bool.true_and]
            refine Ev.bind (hasKey_take l _ i (by omega) hl) ?_
            refine evr (J _) ?_
            rw [Bool.not_not, Bool.and_left_comm]
        · simp only [show ¬ (i : Int) > 0 by omega, if_false, h0, decide_false, Bool.false_and, Bool.not_false, Bool.true_and]
          refine Ev.bind (hasKey_take l _ i (by omega) hl) ?_
          refine evr (J _) ?_
          rw [Bool.not_not, Bool.and_left_comm]
      · unfold slotAt
        simp only [Bool.not_eq_true] at hf
        simp only [hf, Bool.false_and, Bool.and_false]
        unfold fieldsOk at hf
        by_cases h1 : 0 ≤ (rd_T33 l (i : Int)).f0 ∧ (rd_T33 l (i : Int)).f0 ≤ 99
        · by_cases h2 : 1 ≤ (rd_T33 l (i : Int)).f1 ∧ (rd_T33 l (i : Int)).f1 ≤ 1000
          · have h3 : ¬ (1 ≤ (rd_T33 l (i : Int)).f2 ∧ (rd_T33 l (i : Int)).f2 ≤ 1000000) := fun h3 => by simp [h1, h2, h3] at hf
            simp only [h1, h2, h3, and_self, decide_true, decide_false, if_true, if_false, reduceCtorEq]
            exact J0
          · simp only [h1, h2, and_self, decide_true, decide_false, if_true, if_false, reduceCtorEq]
            exact J0
        · simp only [h1, decide_false, if_false, reduceCtorEq]
          exact J0
  exact key 0 (by omega) (fun j hj => by omega)
end Go.Proofs.Ytjepmnmakemfoaa.Tabs

/- The bits of small numbers. -/
namespace Go.Proofs.Ytjepmnmakemfoaa.K
open Go.RowKit Go.Proofs.YtjepmnmakemfoaaW.PrintWords

theorem i64_small (n : Nat) (h : n < 9223372036854775808) : IntKind.i64.wrap (n : Int) = (n : Int) := by
  simp [IntKind.wrap, IntKind.bits, IntKind.signed]
  omega
theorem ofInt_nat (a : Nat) (ha : a < 9223372036854775808) : (BitVec.ofInt 64 (a : Int)).toNat = a := by
  rw [BitVec.ofInt_natCast, BitVec.toNat_ofNat]
  exact Nat.mod_eq_of_lt (by omega)
theorem bits_and_nat (a b : Nat) (ha : a < 9223372036854775808) (hb : b < 9223372036854775808) : Go.bits .and .i64 (a : Int) (b : Int) = ((a &&& b : Nat) : Int) := by
  have hx : a &&& b ≤ a := Nat.and_le_left
  show IntKind.i64.wrap ((BitVec.ofInt 64 (a : Int) &&& BitVec.ofInt 64 (b : Int)).toNat : Int) = _
  rw [BitVec.toNat_and, ofInt_nat a ha, ofInt_nat b hb, i64_small _ (by omega)]
/-- What '& m' leaves, of any number. -/
theorem bits_and_le (x : Int) (m : Nat) (hm : m < 9223372036854775808) : 0 ≤ Go.bits .and .i64 x (m : Int) ∧ Go.bits .and .i64 x (m : Int) ≤ (m : Int) := by
  have hx : (BitVec.ofInt 64 x).toNat &&& m ≤ m := Nat.and_le_right
  have h : Go.bits .and .i64 x (m : Int) = (((BitVec.ofInt 64 x).toNat &&& m : Nat) : Int) := by
    show IntKind.i64.wrap ((BitVec.ofInt 64 x &&& BitVec.ofInt 64 (m : Int)).toNat : Int) = _
    rw [BitVec.toNat_and, ofInt_nat m hm, i64_small _ (by omega)]
  rw [h]
  omega
end Go.Proofs.Ytjepmnmakemfoaa.K

/- Numbers as bytes: program and reference write the same. -/
set_option linter.unusedSimpArgs false
namespace Go.Proofs.Ytjepmnmakemfoaa.Var
open Go.RowKit Go.Proofs.YtjepmnmakemfoaaW.PrintWords Go.Proofs.YtjepmnmakemfoaaW.PrintMore Go.Proofs.Ytjepmnmakemfoaa.K Go.Proofs.Ytjepmnmakemfoaa.XA Go.Proofs.Ytjepmnmakemfoaa.Base

theorem bits_or_nat (a b : Nat) (ha : a < 4611686018427387904) (hb : b < 4611686018427387904) : Go.bits .or .i64 (a : Int) (b : Int) = ((a ||| b : Nat) : Int) := by
  have hx : a ||| b < 2 ^ 62 := Nat.or_lt_two_pow (by omega) (by omega)
  show IntKind.i64.wrap ((BitVec.ofInt 64 (a : Int) ||| BitVec.ofInt 64 (b : Int)).toNat : Int) = _
  rw [BitVec.toNat_or, ofInt_nat a (by omega), ofInt_nat b (by omega), i64_small _ (by omega)]
theorem low_byte (m : Nat) (hm : m < 4611686018427387904) : (Go.bits .or .i64 (Go.bits .and .i64 (m : Int) 127) 128) % 256 = (wrap64 (128 + (Int.tmod (m : Int) 128))) % 256 := by
  have h1 : m &&& 127 = m % 128 := Nat.and_two_pow_sub_one_eq_mod m 7
  have h2 : (m % 128) ||| 128 = m % 128 + 128 := by
    rw [Nat.or_comm, Nat.add_comm]
    exact (Nat.two_pow_add_eq_or_of_lt (i := 7) (show m % 128 < 2 ^ 7 by omega) 1).symm
  rw [show ((127 : Int)) = ((127 : Nat) : Int) from rfl, bits_and_nat m 127 (by omega) (by omega), h1, show ((128 : Int)) = ((128 : Nat) : Int) from rfl, bits_or_nat (m % 128) 128 (by omega) (by omega), h2]
  rw [show Int.tmod (m : Int) ((128 : Nat) : Int) = ((m % 128 : Nat) : Int) from rfl, w64 (by omega) (by omega)]
  omega
theorem var_loop : ∀ (n : Nat), n ≤ 7 → ∀ (m : Nat), m < 128 ^ (n + 1) → ∀ acc : List Int, acc.length + n ≤ 8 → ∃ ys : List Int, ys.length ≤ acc.length + n + 1 ∧ Ev (fun k => spec_Var.l0 k (m : Int) acc) (strOfNums ys) ∧ Ev (fun k => impl_Var.l0 k (m : Int) acc) (strOfNums ys) := by
  intro n
  induction n with
  | zero =>
    intro _ m hm acc ha
    refine ⟨acc ++ [(m : Int) % 256], (by simp), ?_, ?_⟩
    · refine Ev.step (fun k => by rw [spec_Var.l0]) ?_
      simp only [show ¬ (m : Int) ≥ 128 by omega, if_false, show acc.length < 140737488355328 by omega, if_true]
      exact Ev.now _
    · refine Ev.step (fun k => by rw [impl_Var.l0]) ?_
      simp only [show ¬ (m : Int) > 127 by omega, if_false, show acc.length < 140737488355328 by omega, if_true]
      exact Ev.now _
  | succ n ih =>
    intro hn m hm acc ha
    by_cases h : (m : Int) ≥ 128
    · have hq : m / 128 < 128 ^ (n + 1) := by
        rw [Nat.div_lt_iff_lt_mul (by omega)]
        exact hm
      have hb : m < 4611686018427387904 := by
        have h9 : 128 ^ (n + 1 + 1) ≤ 128 ^ 8 := Nat.pow_le_pow_right (by omega) (by omega)
        exact Nat.lt_of_lt_of_le hm (Nat.le_trans h9 (by decide))
      obtain ⟨ys, hy, hs, hi⟩ := ih (by omega) (m / 128) hq (acc ++ [(wrap64 (128 + (Int.tmod (m : Int) 128))) % 256]) (by simp only [List.length_append, List.length_singleton]; omega)
      refine ⟨ys, (by simp only [List.length_append, List.length_singleton] at hy; omega), ?_, ?_⟩
      · refine Ev.step (fun k => by rw [spec_Var.l0]) ?_
        have e : wrap64 (Int.tdiv (m : Int) 128) = ((m / 128 : Nat) : Int) := by
          rw [show Int.tdiv (m : Int) 128 = ((m / 128 : Nat) : Int) from rfl, w64 (by omega) (by omega)]
        simp only [h, if_true, show acc.length < 140737488355328 by omega, e]
        exact hs
      · refine Ev.step (fun k => by rw [impl_Var.l0]) ?_
        have e : (m : Int) / 128 = ((m / 128 : Nat) : Int) := by omega
        simp only [show (m : Int) > 127 by omega, if_true, show acc.length < 140737488355328 by omega, low_byte m hb, e]
        exact hi
    · have hm' : m < 128 ^ (n + 1) := by
        have h1 : 128 ^ 1 ≤ 128 ^ (n + 1) := Nat.pow_le_pow_right (by omega) (by omega)
        exact Nat.lt_of_lt_of_le (show m < 128 ^ 1 by omega) h1
      obtain ⟨ys, hy, hs, hi⟩ := ih (by omega) m hm' acc (by omega)
      exact ⟨ys, by omega, hs, hi⟩
theorem Var (x : Int) : ∃ ys : List Int, ys.length ≤ 9 ∧ Ev (fun k => spec_Var.f k x) (strOfNums ys) ∧ Ev (fun k => impl_Var.f k x) (strOfNums ys) := by
  unfold spec_Var.f impl_Var.f
  simp only [l1In_eq, within_eq, Option.bind_some]
  by_cases h : 0 ≤ x ∧ x ≤ 562949953421311
  · obtain ⟨m, rfl⟩ := Int.eq_ofNat_of_zero_le h.1
    obtain ⟨ys, hy, hs, hi⟩ := var_loop 7 (by omega) m (by have : (128 : Nat) ^ (7 + 1) = 72057594037927936 := rfl; omega) [] (by simp)
    refine ⟨ys, (by simp only [List.length_nil] at hy; omega), ?_, ?_⟩
    · simp only [h, and_self, decide_true, if_true]
      exact hs
    · simp only [h, and_self, decide_true, if_true]
      exact hi
  · refine ⟨[], by simp, ?_, ?_⟩
    · simp only [h, decide_false, reduceCtorEq, if_false]
      exact Ev.now _
    · simp only [h, decide_false, reduceCtorEq, if_false]
      exact Ev.now _
end Go.Proofs.Ytjepmnmakemfoaa.Var

/- ShowTab: program and reference come to the same. -/
set_option linter.unusedSimpArgs false
namespace Go.Proofs.Ytjepmnmakemfoaa.Tabs
open Go.RowKit Go.Proofs.YtjepmnmakemfoaaW.PrintWords Go.Proofs.YtjepmnmakemfoaaW.PrintMore Go.Proofs.Ytjepmnmakemfoaa.K Go.Proofs.Ytjepmnmakemfoaa.XA Go.Proofs.Ytjepmnmakemfoaa.Base Go.Proofs.Ytjepmnmakemfoaa.RSlotS

theorem nums_size (xs : List Int) : (strOfNums xs).size = xs.length := by simp [strOfNums, ByteArray.size]
theorem show_loop (l : List S33) (hl : l.length ≤ 20) : ∀ i, i ≤ l.length → ∀ s : ByteArray, s.size ≤ 9 + 27 * i → ∃ r : ByteArray, Ev (fun k => spec_ShowTab.l0 k l s (i : Int)) r ∧ Ev (fun k => impl_ShowTab.l0 k s l (l.length : Int) (i : Int)) r := by
  refine down _ (fun s hs => ⟨s, ?_, ?_⟩) (fun i hi ih s hs => ?_)
  · refine Ev.step (fun k => by rw [spec_ShowTab.l0]) ?_
    simp only [Int.lt_irrefl, if_false]
    exact Ev.now _
  · refine Ev.step (fun k => by rw [impl_ShowTab.l0]) ?_
    simp only [Int.lt_irrefl, if_false]
    exact Ev.now _
  · obtain ⟨a, ha, sa, ia⟩ := Var.Var (rd_T33 l (i : Int)).f0
    obtain ⟨b, hb, sb, ib⟩ := Var.Var (rd_T33 l (i : Int)).f1
    obtain ⟨c, hc, sc, ic⟩ := Var.Var (rd_T33 l (i : Int)).f2
    have z0 := nums_size a
    have z1 := nums_size b
    have z2 := nums_size c
    generalize strOfNums a = a at *
    generalize strOfNums b = b at *
    generalize strOfNums c = c at *
    have y1 : (s ++ a).size = s.size + a.size := ByteArray.size_append
    have y2 : ((s ++ a) ++ b).size = s.size + a.size + b.size := by rw [ByteArray.size_append, y1]
    have y3 : (((s ++ a) ++ b) ++ c).size = s.size + a.size + b.size + c.size := by rw [ByteArray.size_append, y2]
    obtain ⟨r, hs1, hi1⟩ := ih (((s ++ a) ++ b) ++ c) (by omega)
    refine ⟨r, ?_, ?_⟩
    · refine Ev.step (fun k => by rw [spec_ShowTab.l0]) ?_
      simp only [show (i : Int) < (l.length : Int) by omega, Int.natCast_nonneg, if_true, wsucc (show i < 9223372036854775807 by omega)]
      refine Ev.bind sa ?_
      simp only [show s.size + a.size ≤ 9223372036854775807 by omega, if_true]
      refine Ev.bind sb ?_
      simp only [show (s ++ a).size + b.size ≤ 9223372036854775807 by omega, if_true]
      refine Ev.bind sc ?_
      simp only [show ((s ++ a) ++ b).size + c.size ≤ 9223372036854775807 by omega, if_true]
      exact hs1
    · refine Ev.step (fun k => by rw [impl_ShowTab.l0]) ?_
      simp only [show (i : Int) < (l.length : Int) by omega, Int.natCast_nonneg, if_true, wsucc (show i < 9223372036854775807 by omega)]
      refine Ev.bind ia ?_
      simp only [show s.size + a.size ≤ 9223372036854775807 by omega, if_true]
      refine Ev.bind ib ?_
      simp only [show (s ++ a).size + b.size ≤ 9223372036854775807 by omega, if_true]
      refine Ev.bind ic ?_
      simp only [show ((s ++ a) ++ b).size + c.size ≤ 9223372036854775807 by omega, if_true]
      exact hi1
theorem ShowTab (l : List S33) (hl : l.length ≤ 1125899906842624) : ∃ r, Ev (fun k => spec_ShowTab.f k l) r ∧ Ev (fun k => impl_ShowTab.f k l) r := by
  unfold spec_ShowTab.f impl_ShowTab.f
  by_cases hok : tabOk l = true
  · obtain ⟨a, ha, sa, ia⟩ := Var.Var (l.length : Int)
    obtain ⟨r, hs, hi⟩ := show_loop l (tabOk_len hok) 0 (by omega) (strOfNums a) (by rw [nums_size]; omega)
    refine ⟨r, ?_, ?_⟩
    · refine Ev.bind (spec_TabOk l hl) ?_
      simp only [hok, if_true]
      refine Ev.bind sa ?_
      exact hs
    · refine Ev.bind (impl_TabOk l hl) ?_
      simp only [hok, if_true]
      refine Ev.bind ia ?_
      exact hi
  · refine ⟨⟨#[]⟩, ?_, ?_⟩
    · refine Ev.bind (spec_TabOk l hl) ?_
      simp only [hok, if_false]
      exact Ev.now _
    · refine Ev.bind (impl_TabOk l hl) ?_
      simp only [hok, if_false]
      exact Ev.now _
end Go.Proofs.Ytjepmnmakemfoaa.Tabs

set_option linter.unusedSimpArgs false
namespace Go.Proofs.Ytjepmnmakemfoaa.Pure
open Go.RowKit Go.Proofs.Ytjepmnmakemfoaa.XA Go.Proofs.YtjepmnmakemfoaaW.PrintWords Go.Proofs.Ytjepmnmakemfoaa.K Go.Proofs.Ytjepmnmakemfoaa.RSlotS

theorem FnExactShowTab : laws_FnExactShowTab.Pure := by
  intro l hm
  refine Ev.rounds (g := fun k => laws_FnExactShowTab.f k l) ?_
  unfold laws_FnExactShowTab.f laws_szSlotS.f
  have hm8 : l.length ≤ 9223372036854775807 := by have := hm.1; unfold maxLen at this; omega
  rw [w64 (by omega) (by omega)]
  by_cases h : (1048576 : Int) - (l.length : Int) < 0
  · simp only [h, if_true, Option.bind_some, show (-1 : Int) < 0 by omega]
    exact Ev.now _
  · simp only [h, if_false, Option.bind_some]
    have hl : (l.map cv).length ≤ 1048576 := by rw [List.length_map]; omega
    obtain ⟨r, hs, hi⟩ := Tabs.ShowTab (l.map cv) (by omega)
    refine Ev.bind (toS l (by omega)) ?_
    refine Ev.bind hs ?_
    refine Ev.bind (toS l (by omega)) ?_
    refine Ev.bind hi ?_
    simp only [if_true]
    refine Ev.bind (toS l (by omega)) ?_
    refine Ev.bind (eqS _ (by omega)) ?_
    simp only [if_true]
    exact Ev.now _
end Go.Proofs.Ytjepmnmakemfoaa.Pure

namespace Go.Proofs.Ytjepmnmakemfoaa.fnExactShowTab
open Go.ChangeShapes Go.WideShapes Go.ChangeAt Go.RowKit
open Go.ChangeMaps (open_string shut_string)
set_option linter.unusedVariables false
theorem own : ownKnob Try.prog.godebug = none := by kernel_rfl
theorem laidOut : laidOutB Try.prog = true := by kernel_rfl
set_option maxRecDepth 100000 in
theorem lifted (os : Os) (started : os.Started) (H : Type) (enc : TypeId × Value → H) :
    ReturnsInHanded {} Try.checked os 6 .any (Rows.fnExactShowTabSpec.pre6 enc Try.prog Try.f6 Rows.fnExactShowTabRow.domain false) (Rows.fnExactShowTabSpec.post enc Try.prog Try.f6 false true false false) := by
  refine returnsInHanded_of_change_sized (C := Try.checked) own started (by kernel_rfl) Try.func6
    (ChangeSpec.witness6 (enc := enc) (C := Try.checked) false ⟨#[], #[.slice none 0 0], []⟩ 8 (by kernel_rfl) (by kernel_rfl) (by kernel_rfl) (by kernel_rfl)) ?_
  intro W base args ds gs before hval0 hW hcnd hsz0 _
  have hval : ∀ (j : Nat) t v, Try.f6.params[j]? = some t → args[j]? = some v → Value.okWide Try.prog W .any base t v := hval0
  have hW' := hW
  obtain ⟨p, q, hA0, hV, rfl, hfz, hnd⟩ := hW
  have hA : DataW.TrodAll enc Try.prog W 0 (fun _ => true) true Try.f6.params.toList args.toList ds p := hA0
  rw [Try.params6] at hA hval
  obtain ⟨v0, vs0, d0, ds0, p0, q0, hargs, rfl, rfl, h0, r0⟩ := trodAll_cons hA
  obtain ⟨rfl, rfl, rfl⟩ := trodAll_nil r0
  obtain rfl : args = #[v0] := by cases args; simp_all
  obtain ⟨rfl, rfl⟩ := trodVars_none hV
  have k0 := h0
  have lt0 : ∀ x ∈ p0, x.block < W.heap.size := by obtain ⟨m, hm⟩ := k0; exact DataW.trod_lt m _ _ _ hm
  obtain ⟨a0, len0, cap0, rfl⟩ := okWide_slice Try.underlying22 (hval 0 22 v0 rfl rfl)
  obtain ⟨z0, ⟨A0, c0, hcs0, hl0, hC0⟩, ok0⟩ := O.Opens.of_trod (O.Opens.slice (t := 22) (e := 73) Try.underlying22 (by kernel_rfl) XA.op73) h0
  simp [Value.cells] at hcs0
  obtain ⟨rfl, rfl, rfl⟩ := hcs0
  clear hA0 hval0 hsz0
  refine (XA.laws_FnExactShowTab.walk Pure.FnExactShowTab _ _ z0 W hC0 hl0 ok0).mono fun e W' ⟨he, bel⟩ => ?_
  subst he
  exact ⟨_, rfl, _, _, _, [], _, [], hW', trodAll_mk1 (shut_bool Try.underlying4 _), (trodAll_cons_mk (Below.trod laidOut (by kernel_rfl) (of_decide_eq_true (by kernel_rfl)) k0 bel lt0) trodAll_mk0), rfl, bel.frame _, fun h => by cases h⟩
theorem over : Rows.fnExactShowTabRow.holds Try.pinned (OpenSpec.ofChange Rows.fnExactShowTabSpec) :=
  OpenClaim.holds_of_wide 6 Try.f6 rfl rfl rfl rfl rfl rfl rfl ⟨rfl, rfl, rfl, rfl, rfl⟩ rfl rfl rfl rfl rfl (by kernel_rfl) Try.func6 (by kernel_rfl)
    (of_decide_eq_true (by kernel_rfl)) (by unfold Func.isWrapper; first | (rw [if_pos (by decide +kernel)]; kernel_rfl) | (rw [if_neg (by decide +kernel)]; exact ⟨rfl, rfl⟩))
    (fun os started H enc _ => lifted os started H enc)
theorem proved : Rows.FnExactShowTabSaid := over
#print axioms proved
end Go.Proofs.Ytjepmnmakemfoaa.fnExactShowTab
namespace Go.Proofs.Ytjepmnmakemfoaa
/-- The row, under a short name, for the claim. -/
theorem fnExactShowTab_holds : Rows.FnExactShowTabSaid := fnExactShowTab.proved
end Go.Proofs.Ytjepmnmakemfoaa
