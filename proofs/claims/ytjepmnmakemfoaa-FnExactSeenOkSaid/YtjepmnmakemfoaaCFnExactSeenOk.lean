/- The program's SeenOk answers what the reference's answers, for every cache, and leaves it as it was. Conditions: none beside those of the given row. -/
import Derived.Test.YtjepmnmakemfoaaXA0
import Derived.Test.YtjepmnmakemfoaaXAf52
import Derived.Test.YtjepmnmakemfoaaXAf55
import Derived.Test.YtjepmnmakemfoaaXAf56
import Derived.Test.YtjepmnmakemfoaaXAf49
import Derived.Test.YtjepmnmakemfoaaXAf74
import Derived.Test.YtjepmnmakemfoaaXAf77
import Derived.Test.YtjepmnmakemfoaaXAf83
import Derived.Test.YtjepmnmakemfoaaXAf84
import Derived.Test.YtjepmnmakemfoaaXAf95
import Derived.Test.YtjepmnmakemfoaaXAf40
import Derived.Test.YtjepmnmakemfoaaXAf41
import Derived.Test.YtjepmnmakemfoaaXAf42
import Derived.Test.YtjepmnmakemfoaaXAf43
import Derived.Test.YtjepmnmakemfoaaXAf73
import Derived.Test.YtjepmnmakemfoaaXAf75
import Derived.Test.YtjepmnmakemfoaaXAf76
import Derived.Test.YtjepmnmakemfoaaXAf94
import Derived.Test.YtjepmnmakemfoaaXAf12
import Derived.Test.YtjepmnmakemfoaaXAf39
import Derived.Test.YtjepmnmakemfoaaXAf72
import Derived.Test.YtjepmnmakemfoaaRows
import Derived.WalkKit
import Derived.ProofKit
import Derived.OpenShut
import Derived.ShutString
import Derived.ChangeOld
import Derived.Below
import Derived.SizedLaws
import Derived.Carry
/- Small lemmas on loops with rounds, on numbers that wrap round and on lists: what all pure laws of this seat use. -/
namespace Go.Proofs.Ytjepmnmakemfoaa.K
open Go.RowKit Go.Proofs.YtjepmnmakemfoaaW.PrintWords

theorem w64 {n : Int} (h0 : -9223372036854775808 ≤ n) (h1 : n ≤ 9223372036854775807) : wrap64 n = n := by
  unfold wrap64
  omega
theorem wsucc {i : Nat} (h : i < 9223372036854775807) : wrap64 ((i : Int) + 1) = ((i + 1 : Nat) : Int) := by
  unfold wrap64
  omega
theorem wadd1 {i : Int} (h0 : -1 ≤ i) (h : i < 9223372036854775807) : wrap64 (i + 1) = i + 1 := by
  unfold wrap64
  omega
theorem rdn (l : List Int) (i : Nat) : rd l (i : Int) = l.getD i 0 := rfl
theorem rd_get {l : List Int} {i : Nat} (h : i < l.length) : rd l (i : Int) = l[i] := by
  rw [rdn, List.getD_eq_getElem?_getD, List.getElem?_eq_getElem h]
  rfl
theorem wf_rd {l : List Int} (hw : ∀ x ∈ l, (Lit.int .i64 x).wf = true) (i : Int) : -9223372036854775808 ≤ rd l i ∧ rd l i ≤ 9223372036854775807 := by
  unfold rd
  rw [List.getD_eq_getElem?_getD]
  rcases h : l[i.toNat]? with _ | x
  · simp
  · have := hw x (List.mem_of_getElem? h)
    simp [Lit.wf, IntKind.min, IntKind.max, IntKind.signed, IntKind.bits] at this
    simpa using this
theorem wf_int {x : Int} (h : (Lit.int .i64 x).wf = true) : -9223372036854775808 ≤ x ∧ x ≤ 9223372036854775807 := by
  simp [Lit.wf, IntKind.min, IntKind.max, IntKind.signed, IntKind.bits] at h
  exact h
/-- From the last round back to the first. -/
theorem down {P : Nat → Prop} (n : Nat) (hend : P n) (hstep : ∀ i, i < n → P (i + 1) → P i) : ∀ i, i ≤ n → P i := by
  intro i hi
  obtain ⟨d, rfl⟩ : ∃ d, n = i + d := ⟨n - i, by omega⟩
  clear hi
  induction d generalizing i with
  | zero => exact hend
  | succ d ih => exact hstep i (by omega) (ih (i + 1) (by rw [show i + 1 + d = i + (d + 1) by omega]; exact hend) (fun j hj => hstep j (by omega)))
theorem evr {α : Type} {g : Nat → Option α} {r r' : α} (h : Ev g r) (e : r = r') : Ev g r' := e ▸ h
theorem evc {α : Type} {o : Option α} {r : α} (h : o = some r) : Ev (fun _ => o) r := ⟨0, fun _ _ => h⟩
theorem evu {α : Type} {g : Nat → Option α} {r r' : α} (h : Ev g r) (h' : Ev g r') : r = r' := by
  obtain ⟨K, h⟩ := h
  obtain ⟨K', h'⟩ := h'
  have h1 := h (max K K') (by omega)
  have h2 := h' (max K K') (by omega)
  rw [h1] at h2
  exact Option.some.inj h2
theorem drop_eq_iff {α : Type} {a b : List α} {i : Nat} (hi : i < a.length) (hj : i < b.length) : a.drop i = b.drop i ↔ a[i] = b[i] ∧ a.drop (i + 1) = b.drop (i + 1) := by
  rw [List.drop_eq_getElem_cons hi, List.drop_eq_getElem_cons hj, List.cons.injEq]
end Go.Proofs.Ytjepmnmakemfoaa.K

/- A test of each place of a list, from one on. -/
namespace Go.Proofs.Ytjepmnmakemfoaa.K
/-- A test of each place from i on. -/
def allFrom (q : Nat → Bool) (n i : Nat) : Bool := (List.range' i (n - i)).all q
theorem allFrom_end (q : Nat → Bool) (n : Nat) : allFrom q n n = true := by simp [allFrom]
theorem allFrom_step (q : Nat → Bool) {n i : Nat} (h : i < n) : allFrom q n i = (q i && allFrom q n (i + 1)) := by
  unfold allFrom
  rw [show n - i = (n - (i + 1)) + 1 by omega, List.range'_succ, List.all_cons]
theorem allFrom_iff (q : Nat → Bool) (n i : Nat) : allFrom q n i = true ↔ ∀ j, i ≤ j → j < n → q j = true := by
  unfold allFrom
  rw [List.all_eq_true]
  refine ⟨fun h j h1 h2 => h j (List.mem_range'_1.2 (by omega)), fun h j hj => ?_⟩
  have := List.mem_range'_1.1 hj
  exact h j (by omega) (by omega)
theorem allFrom_congr {q q' : Nat → Bool} {n : Nat} (h : ∀ j, j < n → q j = q' j) (i : Nat) : allFrom q n i = allFrom q' n i := by
  rw [Bool.eq_iff_iff, allFrom_iff, allFrom_iff]
  exact ⟨fun k j h1 h2 => (h j h2) ▸ k j h1 h2, fun k j h1 h2 => (h j h2).symm ▸ k j h1 h2⟩
end Go.Proofs.Ytjepmnmakemfoaa.K

/- Tests of bounds, in the program and in the reference. -/
namespace Go.Proofs.Ytjepmnmakemfoaa.Base
open Go.RowKit Go.Proofs.YtjepmnmakemfoaaW.PrintWords Go.Proofs.YtjepmnmakemfoaaW.PrintMore Go.Proofs.Ytjepmnmakemfoaa.K Go.Proofs.Ytjepmnmakemfoaa.XA

theorem l1In_eq (a b c : Int) : spec_l1In.f a b c = some (decide (b ≤ a ∧ a ≤ c)) := by
  unfold spec_l1In.f
  by_cases h : a ≥ b
  · rw [if_pos h]
    simp [show b ≤ a from h]
  · rw [if_neg h]
    simp [show ¬ b ≤ a from h]
theorem within_eq (a b c : Int) : impl_within.f a b c = some (decide (b ≤ a ∧ a ≤ c)) := by
  unfold impl_within.f
  by_cases h : a ≥ b
  · rw [if_pos h]
    simp [show b ≤ a from h]
  · rw [if_neg h]
    simp [show ¬ b ≤ a from h]
theorem isKey_eq (a : Int) : impl_isKey.f a = some (decide (1 ≤ a ∧ a ≤ 1000000)) := by
  unfold impl_isKey.f
  rw [within_eq]
  rfl
end Go.Proofs.Ytjepmnmakemfoaa.Base

/- What the laws' helpers on lists of records come to (printed by wip/rowsgen.py): a copy is the list, a list is like itself, marks are found again. -/
set_option linter.unusedSimpArgs false
namespace Go.Proofs.Ytjepmnmakemfoaa.RMarkS
open Go.RowKit Go.Proofs.YtjepmnmakemfoaaW.PrintWords Go.Proofs.YtjepmnmakemfoaaW.PrintMore Go.Proofs.Ytjepmnmakemfoaa.K Go.Proofs.Ytjepmnmakemfoaa.XA

theorem rdA {l : List S68} {i : Nat} (h : i < l.length) : rd_T68 l (i : Int) = l[i] := by
  unfold rd_T68
  rw [Int.toNat_natCast, List.getD_eq_getElem?_getD, List.getElem?_eq_getElem h]
  rfl
theorem rdB {l : List S64} {i : Nat} (h : i < l.length) : rd_T64 l (i : Int) = l[i] := by
  unfold rd_T64
  rw [Int.toNat_natCast, List.getD_eq_getElem?_getD, List.getElem?_eq_getElem h]
  rfl
def cv (x : S68) : S64 := ⟨x.f0, x.f1, x.f2⟩
theorem toS (l : List S68) (hl : l.length ≤ 11728124029610) : Ev (fun k => laws_toMarkS.f k l) (l.map cv) := by
  unfold laws_toMarkS.f
  simp only [Int.natCast_nonneg, Int.toNat_natCast, hl, if_true]
  have key : ∀ i, i ≤ l.length → ∀ acc : List S64, acc.length = l.length → Ev (fun k => laws_toMarkS.l0 k l acc (i : Int)) (acc.take i ++ (l.map cv).drop i) := by
    refine down _ (fun acc ha => ?_) (fun i hi ih acc ha => ?_)
    · refine Ev.step (fun k => by rw [laws_toMarkS.l0]) ?_
      simp only [Int.lt_irrefl, if_false]
      exact evr (Ev.now _) (by simp [← ha])
    · refine Ev.step (fun k => by rw [laws_toMarkS.l0]) ?_
      have h1 : (i : Int) < (l.length : Int) := by omega
      have h2 : (i : Int) < (acc.length : Int) := by omega
      simp only [h1, h2, Int.natCast_nonneg, if_true, wsucc (show i < 9223372036854775807 by omega), Int.toNat_natCast, rdA hi, laws_toMark.f, Option.bind_some]
      refine evr (ih (acc.set i (cv l[i])) (by simp [ha])) ?_
      rw [List.take_succ_eq_append_getElem (by simp; omega), List.getElem_set_self, List.take_set_of_le (by omega), List.append_assoc, List.drop_eq_getElem_cons (l := l.map cv) (i := i) (by simpa using hi), List.getElem_map]
      rfl
  refine evr (key 0 (by omega) _ (by simp)) (by simp)
theorem eqS (a : List S64) (hb : a.length < 9223372036854775807) : Ev (fun k => laws_eqMarkS.f k a a) true := by
  unfold laws_eqMarkS.f
  simp only [if_true]
  have key : ∀ i, i ≤ a.length → Ev (fun k => laws_eqMarkS.l0 k a a (i : Int)) true := by
    refine down _ ?_ (fun i hi ih => ?_)
    · refine Ev.step (fun k => by rw [laws_eqMarkS.l0]) ?_
      simp only [Int.lt_irrefl, if_false]
      exact Ev.now _
    · refine Ev.step (fun k => by rw [laws_eqMarkS.l0]) ?_
      simp only [show (i : Int) < (a.length : Int) by omega, Int.natCast_nonneg, if_true, wsucc (show i < 9223372036854775807 by omega), laws_eqMark.f, Option.bind_some, decide_true, beq_self_eq_true]
      exact ih
  exact key 0 (by omega)
def mk (k : Int) (i : Nat) : S64 := ⟨k + ((3 * i + 0 : Nat) : Int), k + ((3 * i + 1 : Nat) : Int), k + ((3 * i + 2 : Nat) : Int)⟩
def marks (k : Int) (n : Nat) : List S64 := (List.range n).map (mk k)
theorem marks_length (k : Int) (n : Nat) : (marks k n).length = n := by simp [marks]
theorem marks_get (k : Int) (n i : Nat) (h : i < n) : (marks k n)[i]'(by rw [marks_length]; exact h) = mk k i := by simp [marks]
theorem setget (l : List S64) (i : Nat) (x : S64) (h : i < l.length) : rd_T64 (l.set i x) (i : Int) = x := by
  rw [rdB (by simpa using h)]
  simp
theorem markS (l : List S64) (m : Int) (hl : l.length ≤ 1125899906842) (h0 : 0 ≤ m) (h1 : m ≤ 1125899906842624) : Ev (fun k => laws_markMarkS.f k l m) (m + ((3 * l.length : Nat) : Int), marks m l.length) := by
  unfold laws_markMarkS.f
  have key : ∀ i, i ≤ l.length → ∀ acc : List S64, acc.length = l.length → acc.take i = (marks m l.length).take i → Ev (fun k => laws_markMarkS.l0 k acc (m + ((3 * i : Nat) : Int)) (i : Int)) (m + ((3 * l.length : Nat) : Int), marks m l.length) := by
    refine down _ (fun acc ha hp => ?_) (fun i hi ih acc ha hp => ?_)
    · refine Ev.step (fun k => by rw [laws_markMarkS.l0]) ?_
      simp only [ha, Int.lt_irrefl, if_false]
      refine evr (Ev.now _) ?_
      rw [List.take_of_length_le (by omega), List.take_of_length_le (by rw [marks_length]; omega)] at hp
      rw [hp]
    · refine Ev.step (fun k => by rw [laws_markMarkS.l0]) ?_
      have h2 : (i : Int) < (acc.length : Int) := by omega
      have h3 : i < acc.length := by omega
      have s : ∀ n : Nat, n ≤ 3 * l.length → wrap64 (m + (n : Int) + 1) = m + ((n + 1 : Nat) : Int) := fun n hn => by rw [w64 (by omega) (by omega)]; omega
      simp only [h2, Int.natCast_nonneg, if_true, wsucc (show i < 9223372036854775807 by omega), Int.toNat_natCast, Option.bind_some, setget _ _ _ (show i < acc.length from h3), List.set_set, setget]
      simp only [s (3 * i) (by omega), s (3 * i + 1) (by omega), s (3 * i + 2) (by omega)]
      rw [show m + ((3 * i + 2 + 1 : Nat) : Int) = m + ((3 * (i + 1) : Nat) : Int) by omega]
      refine ih _ (by simp [ha]) ?_
      rw [List.take_succ_eq_append_getElem (by simp; omega), List.take_succ_eq_append_getElem (by rw [marks_length]; omega), List.getElem_set_self, List.take_set_of_le (by omega), hp, marks_get _ _ _ hi]
      rfl
  have := key 0 (by omega) l rfl (by simp)
  simpa using this
theorem heldS (l : List S64) (m : Int) (hl : l.length ≤ 1125899906842) (h0 : 0 ≤ m) (h1 : m ≤ 1125899906842624) (he : l = marks m l.length) : Ev (fun k => laws_heldMarkS.f k l m) (m + ((3 * l.length : Nat) : Int)) := by
  unfold laws_heldMarkS.f
  have key : ∀ i, i ≤ l.length → Ev (fun k => laws_heldMarkS.l0 k l (m + ((3 * i : Nat) : Int)) (i : Int)) (m + ((3 * l.length : Nat) : Int)) := by
    refine down _ ?_ (fun i hi ih => ?_)
    · refine Ev.step (fun k => by rw [laws_heldMarkS.l0]) ?_
      simp only [Int.lt_irrefl, if_false]
      exact Ev.now _
    · refine Ev.step (fun k => by rw [laws_heldMarkS.l0]) ?_
      have h2 : (i : Int) < (l.length : Int) := by omega
      have h3 : l[i] = mk m i := by
        have := marks_get m l.length i hi
        simp only [← he] at this
        exact this
      have s : ∀ n : Nat, n ≤ 3 * l.length → wrap64 (m + (n : Int) + 1) = m + ((n + 1 : Nat) : Int) := fun n hn => by rw [w64 (by omega) (by omega)]; omega
      simp only [h2, Int.natCast_nonneg, if_true, wsucc (show i < 9223372036854775807 by omega), rdB hi, h3, mk, Nat.add_zero]
      simp only [s (3 * i) (by omega), s (3 * i + 1) (by omega), s (3 * i + 2) (by omega), if_true]
      rw [show m + ((3 * i + 2 + 1 : Nat) : Int) = m + ((3 * (i + 1) : Nat) : Int) by omega]
      exact ih
  have := key 0 (by omega)
  simpa using this
end Go.Proofs.Ytjepmnmakemfoaa.RMarkS

/- What the functions on replay caches come to, in the program and in the reference alike. -/
set_option linter.unusedSimpArgs false
namespace Go.Proofs.Ytjepmnmakemfoaa.Seen
open Go.RowKit Go.Proofs.YtjepmnmakemfoaaW.PrintWords Go.Proofs.YtjepmnmakemfoaaW.PrintMore Go.Proofs.Ytjepmnmakemfoaa.K Go.Proofs.Ytjepmnmakemfoaa.XA Go.Proofs.Ytjepmnmakemfoaa.Base Go.Proofs.Ytjepmnmakemfoaa.RMarkS

theorem isTime_eq (a : Int) : impl_isTime.f a = some (decide (0 ≤ a ∧ a ≤ 100000)) := by
  unfold impl_isTime.f
  rw [within_eq]
  rfl
/-- Is a mark another one than a, b, c? -/
def unlike (a b c : Int) (x : S64) : Bool := !(x.f0 == a && (x.f1 == b && x.f2 == c))
def other (l : List S64) (a b c : Int) (j : Nat) : Bool := unlike a b c (rd_T64 l (j : Int))
theorem unlike_sym (a b c : Int) (x : S64) : (a == x.f0 && (b == x.f1 && c == x.f2)) = !unlike a b c x := by
  unfold unlike
  rw [Bool.not_not, Bool.eq_iff_iff]
  simp only [Bool.and_eq_true, beq_iff_eq]
  exact ⟨fun h => ⟨h.1.symm, h.2.1.symm, h.2.2.symm⟩, fun h => ⟨h.1.symm, h.2.1.symm, h.2.2.symm⟩⟩
theorem spec_has (l : List S64) (a b c : Int) (hl : l.length ≤ 1125899906842624) : Ev (fun k => spec_l23Has.f k l a b c) (!allFrom (other l a b c) l.length 0) := by
  unfold spec_l23Has.f
  have key : ∀ i, i ≤ l.length → Ev (fun k => spec_l23Has.l0 k l (i : Int) a b c) (!allFrom (other l a b c) l.length i) := by
    refine down _ ?_ (fun i hi ih => ?_)
    · refine Ev.step (fun k => by rw [spec_l23Has.l0]) ?_
      simp only [Int.lt_irrefl, if_false]
      exact evr (Ev.now _) (by rw [allFrom_end]; rfl)
    · refine Ev.step (fun k => by rw [spec_l23Has.l0]) ?_
      rw [allFrom_step _ hi]
      simp only [show (i : Int) < (l.length : Int) by omega, Int.natCast_nonneg, if_true, wsucc (show i < 9223372036854775807 by omega)]
      have e : ((rd_T64 l (i : Int)).f0 == a && ((rd_T64 l (i : Int)).f1 == b && (rd_T64 l (i : Int)).f2 == c)) = !other l a b c i := by
        unfold other unlike
        rw [Bool.not_not]
      rw [e]
      by_cases h : other l a b c i = true
      · simp only [h, Bool.not_true, reduceCtorEq, if_false, Bool.true_and]
        exact ih
      · simp only [Bool.not_eq_true] at h
        simp only [h, Bool.not_false, if_true, Bool.false_and]
        exact Ev.now _
  exact key 0 (by omega)
theorem impl_has (l : List S64) (a b c : Int) (hl : l.length ≤ 1125899906842624) : Ev (fun k => impl_Mark_75.f k l a b c) (!allFrom (other l a b c) l.length 0) := by
  unfold impl_Mark_75.f impl_Mark_94.f
  have key : ∀ i, i ≤ l.length → ∃ v, Ev (fun k => impl_Mark_94.l0 k l (l.length : Int) (i : Int) a b c) v ∧ decide (v ≥ 0) = !allFrom (other l a b c) l.length i := by
    refine down _ ⟨-1, ?_, by rw [allFrom_end]; rfl⟩ (fun i hi ih => ?_)
    · refine Ev.step (fun k => by rw [impl_Mark_94.l0]) ?_
      simp only [Int.lt_irrefl, if_false]
      exact Ev.now _
    · obtain ⟨v, hv, hd⟩ := ih
      by_cases h : other l a b c i = true
      · refine ⟨v, ?_, by rw [allFrom_step _ hi, h, Bool.true_and]; exact hd⟩
        refine Ev.step (fun k => by rw [impl_Mark_94.l0]) ?_
        unfold other at h
        simp only [show (i : Int) < (l.length : Int) by omega, Int.natCast_nonneg, if_true, wsucc (show i < 9223372036854775807 by omega), unlike_sym, h, Bool.not_true, reduceCtorEq, if_false]
        exact hv
      · simp only [Bool.not_eq_true] at h
        refine ⟨i, ?_, by rw [allFrom_step _ hi, h]; simp⟩
        refine Ev.step (fun k => by rw [impl_Mark_94.l0]) ?_
        unfold other at h
        simp only [show (i : Int) < (l.length : Int) by omega, Int.natCast_nonneg, if_true, unlike_sym, h, Bool.not_false]
        exact Ev.now _
  obtain ⟨v, hv, hd⟩ := key 0 (by omega)
  exact evr (Ev.bind hv (Ev.now _)) hd
theorem other_take (l : List S64) (a b c : Int) (i : Nat) (hi : i ≤ l.length) : allFrom (other (l.take i) a b c) (l.take i).length 0 = allFrom (other l a b c) i 0 := by
  rw [List.length_take, Nat.min_eq_left hi]
  refine allFrom_congr (fun j hj => ?_) 0
  unfold other
  rw [rdB (by rw [List.length_take]; omega), rdB (by omega), List.getElem_take]
def markAt (l : List S64) (w n : Int) (i : Nat) : Bool :=
  !decide ((rd_T64 l (i : Int)).f1 < wrap64 (n - w)) && allFrom (other l (rd_T64 l (i : Int)).f0 (rd_T64 l (i : Int)).f1 (rd_T64 l (i : Int)).f2) i 0
def frame (s w : Int) (l : List S64) (n : Int) : Bool := decide (1 ≤ s ∧ s ≤ 20) && (decide (1 ≤ w ∧ w ≤ 1000) && (decide ((l.length : Int) ≤ s) && decide (0 ≤ n ∧ n ≤ 100000)))
def seenOk (s w : Int) (l : List S64) (n : Int) : Bool := allFrom (markAt l w n) l.length 0 && frame s w l n
theorem spec_SeenOk (s w : Int) (l : List S64) (n : Int) (hl : l.length ≤ 1125899906842624) : Ev (fun k => spec_SeenOk.f k s w l n) (seenOk s w l n) := by
  have no : Ev (fun k => spec_SeenOk.j0 k true s w l n) false := by
    refine Ev.step (fun k => by rw [spec_SeenOk.j0]) ?_
    simp only [if_true]
    exact Ev.now _
  have yes : Ev (fun k => spec_SeenOk.j0 k false s w l n) (allFrom (markAt l w n) l.length 0) := by
    refine Ev.step (fun k => by rw [spec_SeenOk.j0]) ?_
    simp only [reduceCtorEq, if_false]
    have key : ∀ i, i ≤ l.length → Ev (fun k => spec_SeenOk.l0 k (i : Int) s w l n) (allFrom (markAt l w n) l.length i) := by
      refine down _ ?_ (fun i hi ih => ?_)
      · refine Ev.step (fun k => by rw [spec_SeenOk.l0]) ?_
        simp only [Int.lt_irrefl, if_false]
        exact evr (Ev.now _) (allFrom_end _ _).symm
      · refine Ev.step (fun k => by rw [spec_SeenOk.l0]) ?_
        rw [allFrom_step _ hi]
        simp only [show (i : Int) < (l.length : Int) by omega, show (i : Int) ≤ (l.length : Int) by omega, Int.natCast_nonneg, Int.toNat_natCast, if_true, wsucc (show i < 9223372036854775807 by omega)]
        unfold markAt
        by_cases hx : (rd_T64 l (i : Int)).f1 < wrap64 (n - w)
        · simp only [if_pos hx, hx, decide_true, Bool.not_true, Bool.false_and]
          exact Ev.now _
        · simp only [if_neg hx, hx, decide_false, Bool.not_false, Bool.true_and]
          refine Ev.bind (spec_has (l.take i) _ _ _ (by rw [List.length_take]; omega)) ?_
          rw [other_take l _ _ _ i (by omega)]
          by_cases ho : allFrom (other l (rd_T64 l (i : Int)).f0 (rd_T64 l (i : Int)).f1 (rd_T64 l (i : Int)).f2) i 0 = true
          · simp only [ho, Bool.not_true, reduceCtorEq, if_false, Bool.true_and]
            exact ih
          · simp only [Bool.not_eq_true] at ho
            simp only [ho, Bool.not_false, if_true, Bool.false_and]
            exact Ev.now _
    exact key 0 (by omega)
  unfold spec_SeenOk.f seenOk frame
  simp only [l1In_eq, Option.bind_some]
  by_cases h1 : 1 ≤ s ∧ s ≤ 20
  · by_cases h2 : 1 ≤ w ∧ w ≤ 1000
    · by_cases h3 : (l.length : Int) > s
      · simp only [h1, h2, and_self, decide_true, if_true, if_pos h3, show ¬ (l.length : Int) ≤ s by omega, decide_false, Bool.false_and, Bool.and_false]
        exact no
      · simp only [h1, h2, and_self, decide_true, if_true, if_neg h3, show (l.length : Int) ≤ s by omega, Bool.true_and]
        by_cases h4 : 0 ≤ n ∧ n ≤ 100000
        · simp only [h4, and_self, decide_true, Bool.not_true, Bool.and_true]
          exact yes
        · simp only [h4, decide_false, Bool.not_false, Bool.and_false]
          exact no
    · simp only [h1, h2, and_self, decide_true, decide_false, if_true, if_false, reduceCtorEq, Bool.false_and, Bool.and_false]
      exact no
  · simp only [h1, decide_false, if_false, reduceCtorEq, Bool.false_and, Bool.and_false]
    exact no
theorem impl_SeenOk (s w : Int) (l : List S64) (n : Int) (hl : l.length ≤ 1125899906842624) : Ev (fun k => impl_SeenOk.f k s w l n) (seenOk s w l n) := by
  unfold impl_SeenOk.f seenOk
  have key : ∀ i, i ≤ l.length → Ev (fun k => impl_SeenOk.l0 k l (l.length : Int) (i : Int) s w l n) (allFrom (markAt l w n) l.length i && frame s w l n) := by
    refine down _ ?_ (fun i hi ih => ?_)
    · refine Ev.step (fun k => by rw [impl_SeenOk.l0]) ?_
      simp only [Int.lt_irrefl, if_false, within_eq, isTime_eq, Option.bind_some, allFrom_end, Bool.true_and]
      unfold frame
      by_cases h1 : 1 ≤ s ∧ s ≤ 20
      · by_cases h2 : 1 ≤ w ∧ w ≤ 1000
        · by_cases h3 : (l.length : Int) ≤ s
          · simp only [h1, h2, h3, and_self, decide_true, if_true, Bool.true_and]
            exact Ev.now _
          · simp only [h1, h2, h3, and_self, decide_true, decide_false, if_true, if_false, Bool.true_and, Bool.false_and]
            exact Ev.now _
        · simp only [h1, h2, and_self, decide_true, decide_false, if_true, if_false, reduceCtorEq, Bool.false_and, Bool.and_false]
          exact Ev.now _
      · simp only [h1, decide_false, if_false, reduceCtorEq, Bool.false_and]
        exact Ev.now _
    · refine Ev.step (fun k => by rw [impl_SeenOk.l0]) ?_
      rw [allFrom_step _ hi]
      simp only [show (i : Int) < (l.length : Int) by omega, show (i : Int) ≤ (l.length : Int) by omega, Int.natCast_nonneg, Int.toNat_natCast, if_true, wsucc (show i < 9223372036854775807 by omega)]
      unfold markAt
      refine Ev.bind (impl_has (l.take i) _ _ _ (by rw [List.length_take]; omega)) ?_
      rw [other_take l _ _ _ i (by omega)]
      by_cases ho : allFrom (other l (rd_T64 l (i : Int)).f0 (rd_T64 l (i : Int)).f1 (rd_T64 l (i : Int)).f2) i 0 = true
      · simp only [ho, Bool.not_true, reduceCtorEq, if_false, Bool.and_true]
        by_cases hx : (rd_T64 l (i : Int)).f1 < wrap64 (n - w)
        · simp only [if_pos hx, hx, decide_true, Bool.not_true, Bool.false_and]
          exact Ev.now _
        · simp only [if_neg hx, hx, decide_false, Bool.not_false, Bool.true_and]
          exact ih
      · simp only [Bool.not_eq_true] at ho
        simp only [ho, Bool.not_false, if_true, Bool.and_false, Bool.false_and]
        exact Ev.now _
  exact key 0 (by omega)
theorem toSeen (s w : Int) (l : List S68) (n : Int) (hl : l.length ≤ 11728124029610) : Ev (fun k => laws_toSeen.f k s w l n) (s, w, l.map cv, n) := by
  unfold laws_toSeen.f
  exact Ev.bind (toS l hl) (Ev.now _)
theorem eqSeen (s w : Int) (l : List S64) (n : Int) (hl : l.length < 9223372036854775807) : Ev (fun k => laws_eqSeen.f k s w l n s w l n) true := by
  unfold laws_eqSeen.f
  simp only [if_true]
  refine Ev.bind (eqS l hl) ?_
  simp only [if_true]
  exact Ev.now _
end Go.Proofs.Ytjepmnmakemfoaa.Seen

set_option linter.unusedSimpArgs false
namespace Go.Proofs.Ytjepmnmakemfoaa.Pure
open Go.RowKit Go.Proofs.Ytjepmnmakemfoaa.XA Go.Proofs.YtjepmnmakemfoaaW.PrintWords Go.Proofs.Ytjepmnmakemfoaa.K Go.Proofs.Ytjepmnmakemfoaa.RMarkS

theorem FnExactSeenOk : laws_FnExactSeenOk.Pure := by
  intro s w l n
  intros
  rename_i hm _
  refine Ev.rounds (g := fun k => laws_FnExactSeenOk.f k s w l n) ?_
  unfold laws_FnExactSeenOk.f laws_szSeen.f laws_szMarkS.f
  have hm8 : l.length ≤ 9223372036854775807 := by have := hm.1; unfold maxLen at this; omega
  rw [w64 (by omega) (by omega)]
  by_cases h : (1048576 : Int) - (l.length : Int) < 0
  · simp only [h, if_true, Option.bind_some, show (-1 : Int) < 0 by omega]
    exact Ev.now _
  · simp only [h, if_false, Option.bind_some]
    have hl : (l.map cv).length ≤ 1048576 := by rw [List.length_map]; omega
    refine Ev.bind (Seen.toSeen s w l n (by omega)) ?_
    refine Ev.bind (Seen.spec_SeenOk s w (l.map cv) n (by omega)) ?_
    refine Ev.bind (Seen.toSeen s w l n (by omega)) ?_
    refine Ev.bind (Seen.impl_SeenOk s w (l.map cv) n (by omega)) ?_
    simp only [bne_self_eq_false, reduceCtorEq, if_false]
    refine Ev.bind (Seen.toSeen s w l n (by omega)) ?_
    refine Ev.bind (Seen.eqSeen s w (l.map cv) n (by omega)) ?_
    simp only [if_true]
    exact Ev.now _
end Go.Proofs.Ytjepmnmakemfoaa.Pure

namespace Go.Proofs.Ytjepmnmakemfoaa.fnExactSeenOk
open Go.ChangeShapes Go.WideShapes Go.ChangeAt Go.RowKit
open Go.ChangeMaps (open_string shut_string)
set_option linter.unusedVariables false
theorem own : ownKnob Try.prog.godebug = none := by kernel_rfl
theorem laidOut : laidOutB Try.prog = true := by kernel_rfl
set_option maxRecDepth 100000 in
theorem lifted (os : Os) (started : os.Started) (H : Type) (enc : TypeId × Value → H) :
    ReturnsInHanded {} Try.checked os 12 .any (Rows.fnExactSeenOkSpec.pre6 enc Try.prog Try.f12 Rows.fnExactSeenOkRow.domain false) (Rows.fnExactSeenOkSpec.post enc Try.prog Try.f12 false true false false) := by
  refine returnsInHanded_of_change_sized (C := Try.checked) own started (by kernel_rfl) Try.func12
    (ChangeSpec.witness6 (enc := enc) (C := Try.checked) false ⟨#[], #[.agg #[.int .i64 0, .int .i64 0, .slice none 0 0, .int .i64 0]], []⟩ 8 (by kernel_rfl) (by kernel_rfl) (by kernel_rfl) (by kernel_rfl)) ?_
  intro W base args ds gs before hval0 hW hcnd hsz0 _
  have hval : ∀ (j : Nat) t v, Try.f12.params[j]? = some t → args[j]? = some v → Value.okWide Try.prog W .any base t v := hval0
  have hW' := hW
  obtain ⟨p, q, hA0, hV, rfl, hfz, hnd⟩ := hW
  have hA : DataW.TrodAll enc Try.prog W 0 (fun _ => true) true Try.f12.params.toList args.toList ds p := hA0
  rw [Try.params12] at hA hval
  obtain ⟨v0, vs0, d0, ds0, p0, q0, hargs, rfl, rfl, h0, r0⟩ := trodAll_cons hA
  obtain ⟨rfl, rfl, rfl⟩ := trodAll_nil r0
  obtain rfl : args = #[v0] := by cases args; simp_all
  obtain ⟨rfl, rfl⟩ := trodVars_none hV
  have k0 := h0
  have lt0 : ∀ x ∈ p0, x.block < W.heap.size := by obtain ⟨m, hm⟩ := k0; exact DataW.trod_lt m _ _ _ hm
  obtain ⟨cs0, rfl, _⟩ := okWide_struct Try.underlying53 (hval 0 53 v0 rfl rfl)
  obtain ⟨z0, hK0, ok0⟩ := O.Opens.of_trod XA.op53 h0
  obtain ⟨_, _, hcs0, rfl, ⟨_, _, rfl, rfl, ⟨_, _, rfl, ⟨A0_2, c0_2, rfl, hl0_2, hC0_2⟩, rfl⟩⟩⟩ := hK0
  obtain rfl : cs0 = #[.int .i64 z0.f0, .int .i64 z0.f1, .slice A0_2 z0.f2.length c0_2, .int .i64 z0.f3] := by cases cs0; simpa [Value.cells] using hcs0
  clear hA0 hval0 hsz0
  refine (XA.laws_FnExactSeenOk.walk Pure.FnExactSeenOk z0.f0 z0.f1 A0_2 c0_2 z0.f2 z0.f3 W hC0_2 hl0_2 (ok0.1) (ok0.2.1) (ok0.2.2.1) (ok0.2.2.2)).mono fun e W' ⟨he, bel⟩ => ?_
  subst he
  exact ⟨_, rfl, _, _, _, [], _, [], hW', trodAll_mk1 (shut_bool Try.underlying4 _), (trodAll_cons_mk (Below.trod laidOut (by kernel_rfl) (of_decide_eq_true (by kernel_rfl)) k0 bel lt0) trodAll_mk0), rfl, bel.frame _, fun h => by cases h⟩
theorem over : Rows.fnExactSeenOkRow.holds Try.pinned (OpenSpec.ofChange Rows.fnExactSeenOkSpec) :=
  OpenClaim.holds_of_wide 12 Try.f12 rfl rfl rfl rfl rfl rfl rfl ⟨rfl, rfl, rfl, rfl, rfl⟩ rfl rfl rfl rfl rfl (by kernel_rfl) Try.func12 (by kernel_rfl)
    (of_decide_eq_true (by kernel_rfl)) (by unfold Func.isWrapper; first | (rw [if_pos (by decide +kernel)]; kernel_rfl) | (rw [if_neg (by decide +kernel)]; exact ⟨rfl, rfl⟩))
    (fun os started H enc _ => lifted os started H enc)
theorem proved : Rows.FnExactSeenOkSaid := over
#print axioms proved
end Go.Proofs.Ytjepmnmakemfoaa.fnExactSeenOk
namespace Go.Proofs.Ytjepmnmakemfoaa
/-- The row, under a short name, for the claim. -/
theorem fnExactSeenOk_holds : Rows.FnExactSeenOkSaid := fnExactSeenOk.proved
end Go.Proofs.Ytjepmnmakemfoaa
