/- The law on replay caches: whatever marks come, in whatever order, as time goes on, none is taken twice; the cache stays right, and no fuller than it may be. Conditions: none beside those of the given row. -/
import Derived.Test.YtjepmnmakemfoaaCFnSeena
import Derived.Test.YtjepmnmakemfoaaCFnSeend
import Derived.Test.YtjepmnmakemfoaaCFnSeene
import Derived.Test.YtjepmnmakemfoaaCFnSeenb
import Derived.Test.YtjepmnmakemfoaaCFnSeenc
import Derived.Test.YtjepmnmakemfoaaRows
import Derived.WalkKit
import Derived.ProofKit
import Derived.OpenShut
import Derived.ShutString
import Derived.ChangeOld
import Derived.Below
import Derived.SizedLaws
import Derived.Test.YtjepmnmakemfoaaCFnSeenwa
/- Small lemmas on loops with rounds, on numbers that wrap round and on lists: what all pure laws of this seat use. -/
namespace Go.Proofs.Ytjepmnmakemfoaa.K
open Go.RowKit Go.Proofs.YtjepmnmakemfoaaW.PrintWords

theorem w64 {n : Int} (h0 : -9223372036854775808 ≤ n) (h1 : n ≤ 9223372036854775807) : wrap64 n = n := by
  unfold wrap64
  omega
theorem wsucc {i : Nat} (h : i < 9223372036854775807) : wrap64 ((i : Int) + 1) = ((i + 1 : Nat) : Int) := by
  unfold wrap64
  omega
theorem wadd1 {i : Int} (h0 : -1 ≤ i) (h : i < 9223372036854775807) : wrap64 (i + 1) = i + 1 := by
  unfold wrap64
  omega
theorem rdn (l : List Int) (i : Nat) : rd l (i : Int) = l.getD i 0 := rfl
theorem rd_get {l : List Int} {i : Nat} (h : i < l.length) : rd l (i : Int) = l[i] := by
  rw [rdn, List.getD_eq_getElem?_getD, List.getElem?_eq_getElem h]
  rfl
theorem wf_rd {l : List Int} (hw : ∀ x ∈ l, (Lit.int .i64 x).wf = true) (i : Int) : -9223372036854775808 ≤ rd l i ∧ rd l i ≤ 9223372036854775807 := by
  unfold rd
  rw [List.getD_eq_getElem?_getD]
  rcases h : l[i.toNat]? with _ | x
  · simp
  · have := hw x (List.mem_of_getElem? h)
    simp [Lit.wf, IntKind.min, IntKind.max, IntKind.signed, IntKind.bits] at this
    simpa using this
theorem wf_int {x : Int} (h : (Lit.int .i64 x).wf = true) : -9223372036854775808 ≤ x ∧ x ≤ 9223372036854775807 := by
  simp [Lit.wf, IntKind.min, IntKind.max, IntKind.signed, IntKind.bits] at h
  exact h
/-- From the last round back to the first. -/
theorem down {P : Nat → Prop} (n : Nat) (hend : P n) (hstep : ∀ i, i < n → P (i + 1) → P i) : ∀ i, i ≤ n → P i := by
  intro i hi
  obtain ⟨d, rfl⟩ : ∃ d, n = i + d := ⟨n - i, by omega⟩
  clear hi
  induction d generalizing i with
  | zero => exact hend
  | succ d ih => exact hstep i (by omega) (ih (i + 1) (by rw [show i + 1 + d = i + (d + 1) by omega]; exact hend) (fun j hj => hstep j (by omega)))
theorem evr {α : Type} {g : Nat → Option α} {r r' : α} (h : Ev g r) (e : r = r') : Ev g r' := e ▸ h
theorem evc {α : Type} {o : Option α} {r : α} (h : o = some r) : Ev (fun _ => o) r := ⟨0, fun _ _ => h⟩
theorem evu {α : Type} {g : Nat → Option α} {r r' : α} (h : Ev g r) (h' : Ev g r') : r = r' := by
  obtain ⟨K, h⟩ := h
  obtain ⟨K', h'⟩ := h'
  have h1 := h (max K K') (by omega)
  have h2 := h' (max K K') (by omega)
  rw [h1] at h2
  exact Option.some.inj h2
theorem drop_eq_iff {α : Type} {a b : List α} {i : Nat} (hi : i < a.length) (hj : i < b.length) : a.drop i = b.drop i ↔ a[i] = b[i] ∧ a.drop (i + 1) = b.drop (i + 1) := by
  rw [List.drop_eq_getElem_cons hi, List.drop_eq_getElem_cons hj, List.cons.injEq]
end Go.Proofs.Ytjepmnmakemfoaa.K

/- A test of each place of a list, from one on. -/
namespace Go.Proofs.Ytjepmnmakemfoaa.K
/-- A test of each place from i on. -/
def allFrom (q : Nat → Bool) (n i : Nat) : Bool := (List.range' i (n - i)).all q
theorem allFrom_end (q : Nat → Bool) (n : Nat) : allFrom q n n = true := by simp [allFrom]
theorem allFrom_step (q : Nat → Bool) {n i : Nat} (h : i < n) : allFrom q n i = (q i && allFrom q n (i + 1)) := by
  unfold allFrom
  rw [show n - i = (n - (i + 1)) + 1 by omega, List.range'_succ, List.all_cons]
theorem allFrom_iff (q : Nat → Bool) (n i : Nat) : allFrom q n i = true ↔ ∀ j, i ≤ j → j < n → q j = true := by
  unfold allFrom
  rw [List.all_eq_true]
  refine ⟨fun h j h1 h2 => h j (List.mem_range'_1.2 (by omega)), fun h j hj => ?_⟩
  have := List.mem_range'_1.1 hj
  exact h j (by omega) (by omega)
theorem allFrom_congr {q q' : Nat → Bool} {n : Nat} (h : ∀ j, j < n → q j = q' j) (i : Nat) : allFrom q n i = allFrom q' n i := by
  rw [Bool.eq_iff_iff, allFrom_iff, allFrom_iff]
  exact ⟨fun k j h1 h2 => (h j h2) ▸ k j h1 h2, fun k j h1 h2 => (h j h2).symm ▸ k j h1 h2⟩
end Go.Proofs.Ytjepmnmakemfoaa.K

/- Tests of bounds, in the program and in the reference. -/
namespace Go.Proofs.Ytjepmnmakemfoaa.Base
open Go.RowKit Go.Proofs.YtjepmnmakemfoaaW.PrintWords Go.Proofs.YtjepmnmakemfoaaW.PrintMore Go.Proofs.Ytjepmnmakemfoaa.K Go.Proofs.Ytjepmnmakemfoaa.XA

theorem l1In_eq (a b c : Int) : spec_l1In.f a b c = some (decide (b ≤ a ∧ a ≤ c)) := by
  unfold spec_l1In.f
  by_cases h : a ≥ b
  · rw [if_pos h]
    simp [show b ≤ a from h]
  · rw [if_neg h]
    simp [show ¬ b ≤ a from h]
theorem within_eq (a b c : Int) : impl_within.f a b c = some (decide (b ≤ a ∧ a ≤ c)) := by
  unfold impl_within.f
  by_cases h : a ≥ b
  · rw [if_pos h]
    simp [show b ≤ a from h]
  · rw [if_neg h]
    simp [show ¬ b ≤ a from h]
theorem isKey_eq (a : Int) : impl_isKey.f a = some (decide (1 ≤ a ∧ a ≤ 1000000)) := by
  unfold impl_isKey.f
  rw [within_eq]
  rfl
end Go.Proofs.Ytjepmnmakemfoaa.Base

/- What the laws' helpers on lists of records come to (printed by wip/rowsgen.py): a copy is the list, a list is like itself, marks are found again. -/
set_option linter.unusedSimpArgs false
namespace Go.Proofs.Ytjepmnmakemfoaa.RMarkS
open Go.RowKit Go.Proofs.YtjepmnmakemfoaaW.PrintWords Go.Proofs.YtjepmnmakemfoaaW.PrintMore Go.Proofs.Ytjepmnmakemfoaa.K Go.Proofs.Ytjepmnmakemfoaa.XA

theorem rdA {l : List S68} {i : Nat} (h : i < l.length) : rd_T68 l (i : Int) = l[i] := by
  unfold rd_T68
  rw [Int.toNat_natCast, List.getD_eq_getElem?_getD, List.getElem?_eq_getElem h]
  rfl
theorem rdB {l : List S64} {i : Nat} (h : i < l.length) : rd_T64 l (i : Int) = l[i] := by
  unfold rd_T64
  rw [Int.toNat_natCast, List.getD_eq_getElem?_getD, List.getElem?_eq_getElem h]
  rfl
def cv (x : S68) : S64 := ⟨x.f0, x.f1, x.f2⟩
theorem toS (l : List S68) (hl : l.length ≤ 11728124029610) : Ev (fun k => laws_toMarkS.f k l) (l.map cv) := by
  unfold laws_toMarkS.f
  simp only [Int.natCast_nonneg, Int.toNat_natCast, hl, if_true]
  have key : ∀ i, i ≤ l.length → ∀ acc : List S64, acc.length = l.length → Ev (fun k => laws_toMarkS.l0 k l acc (i : Int)) (acc.take i ++ (l.map cv).drop i) := by
    refine down _ (fun acc ha => ?_) (fun i hi ih acc ha => ?_)
    · refine Ev.step (fun k => by rw [laws_toMarkS.l0]) ?_
      simp only [Int.lt_irrefl, if_false]
      exact evr (Ev.now _) (by simp [← ha])
    · refine Ev.step (fun k => by rw [laws_toMarkS.l0]) ?_
      have h1 : (i : Int) < (l.length : Int) := by omega
      have h2 : (i : Int) < (acc.length : Int) := by omega
      simp only [h1, h2, Int.natCast_nonneg, if_true, wsucc (show i < 9223372036854775807 by omega), Int.toNat_natCast, rdA hi, laws_toMark.f, Option.bind_some]
      refine evr (ih (acc.set i (cv l[i])) (by simp [ha])) ?_
      rw [List.take_succ_eq_append_getElem (by simp; omega), List.getElem_set_self, List.take_set_of_le (by omega), List.append_assoc, List.drop_eq_getElem_cons (l := l.map cv) (i := i) (by simpa using hi), List.getElem_map]
      rfl
  refine evr (key 0 (by omega) _ (by simp)) (by simp)
theorem eqS (a : List S64) (hb : a.length < 9223372036854775807) : Ev (fun k => laws_eqMarkS.f k a a) true := by
  unfold laws_eqMarkS.f
  simp only [if_true]
  have key : ∀ i, i ≤ a.length → Ev (fun k => laws_eqMarkS.l0 k a a (i : Int)) true := by
    refine down _ ?_ (fun i hi ih => ?_)
    · refine Ev.step (fun k => by rw [laws_eqMarkS.l0]) ?_
      simp only [Int.lt_irrefl, if_false]
      exact Ev.now _
    · refine Ev.step (fun k => by rw [laws_eqMarkS.l0]) ?_
      simp only [show (i : Int) < (a.length : Int) by omega, Int.natCast_nonneg, if_true, wsucc (show i < 9223372036854775807 by omega), laws_eqMark.f, Option.bind_some, decide_true, beq_self_eq_true]
      exact ih
  exact key 0 (by omega)
def mk (k : Int) (i : Nat) : S64 := ⟨k + ((3 * i + 0 : Nat) : Int), k + ((3 * i + 1 : Nat) : Int), k + ((3 * i + 2 : Nat) : Int)⟩
def marks (k : Int) (n : Nat) : List S64 := (List.range n).map (mk k)
theorem marks_length (k : Int) (n : Nat) : (marks k n).length = n := by simp [marks]
theorem marks_get (k : Int) (n i : Nat) (h : i < n) : (marks k n)[i]'(by rw [marks_length]; exact h) = mk k i := by simp [marks]
theorem setget (l : List S64) (i : Nat) (x : S64) (h : i < l.length) : rd_T64 (l.set i x) (i : Int) = x := by
  rw [rdB (by simpa using h)]
  simp
theorem markS (l : List S64) (m : Int) (hl : l.length ≤ 1125899906842) (h0 : 0 ≤ m) (h1 : m ≤ 1125899906842624) : Ev (fun k => laws_markMarkS.f k l m) (m + ((3 * l.length : Nat) : Int), marks m l.length) := by
  unfold laws_markMarkS.f
  have key : ∀ i, i ≤ l.length → ∀ acc : List S64, acc.length = l.length → acc.take i = (marks m l.length).take i → Ev (fun k => laws_markMarkS.l0 k acc (m + ((3 * i : Nat) : Int)) (i : Int)) (m + ((3 * l.length : Nat) : Int), marks m l.length) := by
    refine down _ (fun acc ha hp => ?_) (fun i hi ih acc ha hp => ?_)
    · refine Ev.step (fun k => by rw [laws_markMarkS.l0]) ?_
      simp only [ha, Int.lt_irrefl, if_false]
      refine evr (Ev.now _) ?_
      rw [List.take_of_length_le (by omega), List.take_of_length_le (by rw [marks_length]; omega)] at hp
      rw [hp]
    · refine Ev.step (fun k => by rw [laws_markMarkS.l0]) ?_
      have h2 : (i : Int) < (acc.length : Int) := by omega
      have h3 : i < acc.length := by omega
      have s : ∀ n : Nat, n ≤ 3 * l.length → wrap64 (m + (n : Int) + 1) = m + ((n + 1 : Nat) : Int) := fun n hn => by rw [w64 (by omega) (by omega)]; omega
      simp only [h2, Int.natCast_nonneg, if_true, wsucc (show i < 9223372036854775807 by omega), Int.toNat_natCast, Option.bind_some, setget _ _ _ (show i < acc.length from h3), List.set_set, setget]
      simp only [s (3 * i) (by omega), s (3 * i + 1) (by omega), s (3 * i + 2) (by omega)]
      rw [show m + ((3 * i + 2 + 1 : Nat) : Int) = m + ((3 * (i + 1) : Nat) : Int) by omega]
      refine ih _ (by simp [ha]) ?_
      rw [List.take_succ_eq_append_getElem (by simp; omega), List.take_succ_eq_append_getElem (by rw [marks_length]; omega), List.getElem_set_self, List.take_set_of_le (by omega), hp, marks_get _ _ _ hi]
      rfl
  have := key 0 (by omega) l rfl (by simp)
  simpa using this
theorem heldS (l : List S64) (m : Int) (hl : l.length ≤ 1125899906842) (h0 : 0 ≤ m) (h1 : m ≤ 1125899906842624) (he : l = marks m l.length) : Ev (fun k => laws_heldMarkS.f k l m) (m + ((3 * l.length : Nat) : Int)) := by
  unfold laws_heldMarkS.f
  have key : ∀ i, i ≤ l.length → Ev (fun k => laws_heldMarkS.l0 k l (m + ((3 * i : Nat) : Int)) (i : Int)) (m + ((3 * l.length : Nat) : Int)) := by
    refine down _ ?_ (fun i hi ih => ?_)
    · refine Ev.step (fun k => by rw [laws_heldMarkS.l0]) ?_
      simp only [Int.lt_irrefl, if_false]
      exact Ev.now _
    · refine Ev.step (fun k => by rw [laws_heldMarkS.l0]) ?_
      have h2 : (i : Int) < (l.length : Int) := by omega
      have h3 : l[i] = mk m i := by
        have := marks_get m l.length i hi
        simp only [← he] at this
        exact this
      have s : ∀ n : Nat, n ≤ 3 * l.length → wrap64 (m + (n : Int) + 1) = m + ((n + 1 : Nat) : Int) := fun n hn => by rw [w64 (by omega) (by omega)]; omega
      simp only [h2, Int.natCast_nonneg, if_true, wsucc (show i < 9223372036854775807 by omega), rdB hi, h3, mk, Nat.add_zero]
      simp only [s (3 * i) (by omega), s (3 * i + 1) (by omega), s (3 * i + 2) (by omega), if_true]
      rw [show m + ((3 * i + 2 + 1 : Nat) : Int) = m + ((3 * (i + 1) : Nat) : Int) by omega]
      exact ih
  have := key 0 (by omega)
  simpa using this
end Go.Proofs.Ytjepmnmakemfoaa.RMarkS

/- What the functions on replay caches come to, in the program and in the reference alike. -/
set_option linter.unusedSimpArgs false
namespace Go.Proofs.Ytjepmnmakemfoaa.Seen
open Go.RowKit Go.Proofs.YtjepmnmakemfoaaW.PrintWords Go.Proofs.YtjepmnmakemfoaaW.PrintMore Go.Proofs.Ytjepmnmakemfoaa.K Go.Proofs.Ytjepmnmakemfoaa.XA Go.Proofs.Ytjepmnmakemfoaa.Base Go.Proofs.Ytjepmnmakemfoaa.RMarkS

theorem isTime_eq (a : Int) : impl_isTime.f a = some (decide (0 ≤ a ∧ a ≤ 100000)) := by
  unfold impl_isTime.f
  rw [within_eq]
  rfl
/-- Is a mark another one than a, b, c? -/
def unlike (a b c : Int) (x : S64) : Bool := !(x.f0 == a && (x.f1 == b && x.f2 == c))
def other (l : List S64) (a b c : Int) (j : Nat) : Bool := unlike a b c (rd_T64 l (j : Int))
theorem unlike_sym (a b c : Int) (x : S64) : (a == x.f0 && (b == x.f1 && c == x.f2)) = !unlike a b c x := by
  unfold unlike
  rw [Bool.not_not, Bool.eq_iff_iff]
  simp only [Bool.and_eq_true, beq_iff_eq]
  exact ⟨fun h => ⟨h.1.symm, h.2.1.symm, h.2.2.symm⟩, fun h => ⟨h.1.symm, h.2.1.symm, h.2.2.symm⟩⟩
theorem spec_has (l : List S64) (a b c : Int) (hl : l.length ≤ 1125899906842624) : Ev (fun k => spec_l23Has.f k l a b c) (!allFrom (other l a b c) l.length 0) := by
  unfold spec_l23Has.f
  have key : ∀ i, i ≤ l.length → Ev (fun k => spec_l23Has.l0 k l (i : Int) a b c) (!allFrom (other l a b c) l.length i) := by
    refine down _ ?_ (fun i hi ih => ?_)
    · refine Ev.step (fun k => by rw [spec_l23Has.l0]) ?_
      simp only [Int.lt_irrefl, if_false]
      exact evr (Ev.now _) (by rw [allFrom_end]; rfl)
    · refine Ev.step (fun k => by rw [spec_l23Has.l0]) ?_
      rw [allFrom_step _ hi]
      simp only [show (i : Int) < (l.length : Int) by omega, Int.natCast_nonneg, if_true, wsucc (show i < 9223372036854775807 by omega)]
      have e : ((rd_T64 l (i : Int)).f0 == a && ((rd_T64 l (i : Int)).f1 == b && (rd_T64 l (i : Int)).f2 == c)) = !other l a b c i := by
        unfold other unlike
        rw [Bool.not_not]
      rw [e]
      by_cases h : other l a b c i = true
      · simp only [h, Bool.not_true, reduceCtorEq, if_false, Bool.true_and]
        exact ih
      · simp only [Bool.not_eq_true] at h
        simp only [h, Bool.not_false, if_true, Bool.false_and]
        exact Ev.now _
  exact key 0 (by omega)
theorem impl_has (l : List S64) (a b c : Int) (hl : l.length ≤ 1125899906842624) : Ev (fun k => impl_Mark_75.f k l a b c) (!allFrom (other l a b c) l.length 0) := by
  unfold impl_Mark_75.f impl_Mark_94.f
  have key : ∀ i, i ≤ l.length → ∃ v, Ev (fun k => impl_Mark_94.l0 k l (l.length : Int) (i : Int) a b c) v ∧ decide (v ≥ 0) = !allFrom (other l a b c) l.length i := by
    refine down _ ⟨-1, ?_, by rw [allFrom_end]; rfl⟩ (fun i hi ih => ?_)
    · refine Ev.step (fun k => by rw [impl_Mark_94.l0]) ?_
      simp only [Int.lt_irrefl, if_false]
      exact Ev.now _
    · obtain ⟨v, hv, hd⟩ := ih
      by_cases h : other l a b c i = true
      · refine ⟨v, ?_, by rw [allFrom_step _ hi, h, Bool.true_and]; exact hd⟩
        refine Ev.step (fun k => by rw [impl_Mark_94.l0]) ?_
        unfold other at h
        simp only [show (i : Int) < (l.length : Int) by omega, Int.natCast_nonneg, if_true, wsucc (show i < 9223372036854775807 by omega), unlike_sym, h, Bool.not_true, reduceCtorEq, if_false]
        exact hv
      · simp only [Bool.not_eq_true] at h
        refine ⟨i, ?_, by rw [allFrom_step _ hi, h]; simp⟩
        refine Ev.step (fun k => by rw [impl_Mark_94.l0]) ?_
        unfold other at h
        simp only [show (i : Int) < (l.length : Int) by omega, Int.natCast_nonneg, if_true, unlike_sym, h, Bool.not_false]
        exact Ev.now _
  obtain ⟨v, hv, hd⟩ := key 0 (by omega)
  exact evr (Ev.bind hv (Ev.now _)) hd
theorem other_take (l : List S64) (a b c : Int) (i : Nat) (hi : i ≤ l.length) : allFrom (other (l.take i) a b c) (l.take i).length 0 = allFrom (other l a b c) i 0 := by
  rw [List.length_take, Nat.min_eq_left hi]
  refine allFrom_congr (fun j hj => ?_) 0
  unfold other
  rw [rdB (by rw [List.length_take]; omega), rdB (by omega), List.getElem_take]
def markAt (l : List S64) (w n : Int) (i : Nat) : Bool :=
  !decide ((rd_T64 l (i : Int)).f1 < wrap64 (n - w)) && allFrom (other l (rd_T64 l (i : Int)).f0 (rd_T64 l (i : Int)).f1 (rd_T64 l (i : Int)).f2) i 0
def frame (s w : Int) (l : List S64) (n : Int) : Bool := decide (1 ≤ s ∧ s ≤ 20) && (decide (1 ≤ w ∧ w ≤ 1000) && (decide ((l.length : Int) ≤ s) && decide (0 ≤ n ∧ n ≤ 100000)))
def seenOk (s w : Int) (l : List S64) (n : Int) : Bool := allFrom (markAt l w n) l.length 0 && frame s w l n
theorem spec_SeenOk (s w : Int) (l : List S64) (n : Int) (hl : l.length ≤ 1125899906842624) : Ev (fun k => spec_SeenOk.f k s w l n) (seenOk s w l n) := by
  have no : Ev (fun k => spec_SeenOk.j0 k true s w l n) false := by
    refine Ev.step (fun k => by rw [spec_SeenOk.j0]) ?_
    simp only [if_true]
    exact Ev.now _
  have yes : Ev (fun k => spec_SeenOk.j0 k false s w l n) (allFrom (markAt l w n) l.length 0) := by
    refine Ev.step (fun k => by rw [spec_SeenOk.j0]) ?_
    simp only [reduceCtorEq, if_false]
    have key : ∀ i, i ≤ l.length → Ev (fun k => spec_SeenOk.l0 k (i : Int) s w l n) (allFrom (markAt l w n) l.length i) := by
      refine down _ ?_ (fun i hi ih => ?_)
      · refine Ev.step (fun k => by rw [spec_SeenOk.l0]) ?_
        simp only [Int.lt_irrefl, if_false]
        exact evr (Ev.now _) (allFrom_end _ _).symm
      · refine Ev.step (fun k => by rw [spec_SeenOk.l0]) ?_
        rw [allFrom_step _ hi]
        simp only [show (i : Int) < (l.length : Int) by omega, show (i : Int) ≤ (l.length : Int) by omega, Int.natCast_nonneg, Int.toNat_natCast, if_true, wsucc (show i < 9223372036854775807 by omega)]
        unfold markAt
        by_cases hx : (rd_T64 l (i : Int)).f1 < wrap64 (n - w)
        · simp only [if_pos hx, hx, decide_true, Bool.not_true, Bool.false_and]
          exact Ev.now _
        · simp only [if_neg hx, hx, decide_false, Bool.not_false, Bool.true_and]
          refine Ev.bind (spec_has (l.take i) _ _ _ (by rw [List.length_take]; omega)) ?_
          rw [other_take l _ _ _ i (by omega)]
          by_cases ho : allFrom (other l (rd_T64 l (i : Int)).f0 (rd_T64 l (i : Int)).f1 (rd_T64 l (i : Int)).f2) i 0 = true
          · simp only [ho, Bool.not_true, reduceCtorEq, if_false, Bool.true_and]
            exact ih
          · simp only [Bool.not_eq_true] at ho
            simp only [ho, Bool.not_false, if_true, Bool.false_and]
            exact Ev.now _
    exact key 0 (by omega)
  unfold spec_SeenOk.f seenOk frame
  simp only [l1In_eq, Option.bind_some]
  by_cases h1 : 1 ≤ s ∧ s ≤ 20
  · by_cases h2 : 1 ≤ w ∧ w ≤ 1000
    · by_cases h3 : (l.length : Int) > s
      · simp only [h1, h2, and_self, decide_true, if_true, if_pos h3, show ¬ (l.length : Int) ≤ s by omega, decide_false, Bool.false_and, Bool.and_false]
        exact no
      · simp only [h1, h2, and_self, decide_true, if_true, if_neg h3, show (l.length : Int) ≤ s by omega, Bool.true_and]
        by_cases h4 : 0 ≤ n ∧ n ≤ 100000
        · simp only [h4, and_self, decide_true, Bool.not_true, Bool.and_true]
          exact yes
        · simp only [h4, decide_false, Bool.not_false, Bool.and_false]
          exact no
    · simp only [h1, h2, and_self, decide_true, decide_false, if_true, if_false, reduceCtorEq, Bool.false_and, Bool.and_false]
      exact no
  · simp only [h1, decide_false, if_false, reduceCtorEq, Bool.false_and, Bool.and_false]
    exact no
theorem impl_SeenOk (s w : Int) (l : List S64) (n : Int) (hl : l.length ≤ 1125899906842624) : Ev (fun k => impl_SeenOk.f k s w l n) (seenOk s w l n) := by
  unfold impl_SeenOk.f seenOk
  have key : ∀ i, i ≤ l.length → Ev (fun k => impl_SeenOk.l0 k l (l.length : Int) (i : Int) s w l n) (allFrom (markAt l w n) l.length i && frame s w l n) := by
    refine down _ ?_ (fun i hi ih => ?_)
    · refine Ev.step (fun k => by rw [impl_SeenOk.l0]) ?_
      simp only [Int.lt_irrefl, if_false, within_eq, isTime_eq, Option.bind_some, allFrom_end, Bool.true_and]
      unfold frame
      by_cases h1 : 1 ≤ s ∧ s ≤ 20
      · by_cases h2 : 1 ≤ w ∧ w ≤ 1000
        · by_cases h3 : (l.length : Int) ≤ s
          · simp only [h1, h2, h3, and_self, decide_true, if_true, Bool.true_and]
            exact Ev.now _
          · simp only [h1, h2, h3, and_self, decide_true, decide_false, if_true, if_false, Bool.true_and, Bool.false_and]
            exact Ev.now _
        · simp only [h1, h2, and_self, decide_true, decide_false, if_true, if_false, reduceCtorEq, Bool.false_and, Bool.and_false]
          exact Ev.now _
      · simp only [h1, decide_false, if_false, reduceCtorEq, Bool.false_and]
        exact Ev.now _
    · refine Ev.step (fun k => by rw [impl_SeenOk.l0]) ?_
      rw [allFrom_step _ hi]
      simp only [show (i : Int) < (l.length : Int) by omega, show (i : Int) ≤ (l.length : Int) by omega, Int.natCast_nonneg, Int.toNat_natCast, if_true, wsucc (show i < 9223372036854775807 by omega)]
      unfold markAt
      refine Ev.bind (impl_has (l.take i) _ _ _ (by rw [List.length_take]; omega)) ?_
      rw [other_take l _ _ _ i (by omega)]
      by_cases ho : allFrom (other l (rd_T64 l (i : Int)).f0 (rd_T64 l (i : Int)).f1 (rd_T64 l (i : Int)).f2) i 0 = true
      · simp only [ho, Bool.not_true, reduceCtorEq, if_false, Bool.and_true]
        by_cases hx : (rd_T64 l (i : Int)).f1 < wrap64 (n - w)
        · simp only [if_pos hx, hx, decide_true, Bool.not_true, Bool.false_and]
          exact Ev.now _
        · simp only [if_neg hx, hx, decide_false, Bool.not_false, Bool.true_and]
          exact ih
      · simp only [Bool.not_eq_true] at ho
        simp only [ho, Bool.not_false, if_true, Bool.and_false, Bool.false_and]
        exact Ev.now _
  exact key 0 (by omega)
theorem toSeen (s w : Int) (l : List S68) (n : Int) (hl : l.length ≤ 11728124029610) : Ev (fun k => laws_toSeen.f k s w l n) (s, w, l.map cv, n) := by
  unfold laws_toSeen.f
  exact Ev.bind (toS l hl) (Ev.now _)
theorem eqSeen (s w : Int) (l : List S64) (n : Int) (hl : l.length < 9223372036854775807) : Ev (fun k => laws_eqSeen.f k s w l n s w l n) true := by
  unfold laws_eqSeen.f
  simp only [if_true]
  refine Ev.bind (eqS l hl) ?_
  simp only [if_true]
  exact Ev.now _
end Go.Proofs.Ytjepmnmakemfoaa.Seen

/- What is left of a cache as time goes on, in the program and in the reference alike; a cache that is right, said of its marks. -/
set_option linter.unusedSimpArgs false
namespace Go.Proofs.Ytjepmnmakemfoaa.Seen
open Go.RowKit Go.Proofs.YtjepmnmakemfoaaW.PrintWords Go.Proofs.YtjepmnmakemfoaaW.PrintMore Go.Proofs.Ytjepmnmakemfoaa.K Go.Proofs.Ytjepmnmakemfoaa.XA Go.Proofs.Ytjepmnmakemfoaa.Base Go.Proofs.Ytjepmnmakemfoaa.RMarkS

/-- Times that a law draws. -/
def Soon (l : List S64) : Prop := ∀ x ∈ l, -100000 ≤ x.f1 ∧ x.f1 ≤ 100000
def left (w n : Int) (l : List S64) : List S64 := l.filter (fun x => decide (x.f1 ≥ n - w))
theorem left_len (w n : Int) (l : List S64) : (left w n l).length ≤ l.length := List.length_filter_le _ _
theorem left_step (w n : Int) (l : List S64) {i : Nat} (hi : i < l.length) (acc : List S64) : acc ++ left w n (l.drop i) = (if l[i].f1 ≥ n - w then acc ++ [l[i]] else acc) ++ left w n (l.drop (i + 1)) := by
  unfold left
  rw [List.drop_eq_getElem_cons hi, List.filter_cons]
  by_cases h : l[i].f1 ≥ n - w <;> simp [h]
theorem mx_low {n : Int} (h : 0 ≤ n) : mx n (-100000) = n := by
  unfold mx
  split <;> omega
theorem impl_fresh (s w : Int) (l : List S64) (t n : Int) (hl : l.length ≤ 1000) (hw : 0 ≤ w ∧ w ≤ 1000) (hn : 0 ≤ n ∧ n ≤ 100000) : Ev (fun k => impl_Seen_fresh.f k s w l t n) (left w n l) := by
  unfold impl_Seen_fresh.f
  rw [mx_low hn.1]
  have key : ∀ i, i ≤ l.length → ∀ acc : List S64, acc.length ≤ i → Ev (fun k => impl_Seen_fresh.l0 k n acc l (l.length : Int) (i : Int) s w l t) (acc ++ left w n (l.drop i)) := by
    refine down _ (fun acc ha => ?_) (fun i hi ih acc ha => ?_)
    · refine Ev.step (fun k => by rw [impl_Seen_fresh.l0]) ?_
      simp only [Int.lt_irrefl, if_false]
      exact evr (Ev.now _) (by simp [left])
    · refine Ev.step (fun k => by rw [impl_Seen_fresh.l0]) ?_
      rw [left_step w n l hi acc]
      simp only [show (i : Int) < (l.length : Int) by omega, Int.natCast_nonneg, if_true, wsucc (show i < 9223372036854775807 by omega), rdB hi, w64 (n := n - w) (by omega) (by omega), show acc.length < 5864062014805 by omega]
      by_cases h : l[i].f1 ≥ n - w
      · simp only [if_pos h]
        exact ih _ (by simp only [List.length_append, List.length_singleton]; omega)
      · simp only [if_neg h]
        exact ih _ (by omega)
  exact key 0 (by omega) [] (by simp)
theorem spec_left (s w : Int) (l : List S64) (t n : Int) (hl : l.length ≤ 1000) (hw : 0 ≤ w ∧ w ≤ 1000) (hs : Soon l) : Ev (fun k => spec_l23Left.f k s w l t n) (left w n l) := by
  unfold spec_l23Left.f
  have key : ∀ i, i ≤ l.length → ∀ acc : List S64, acc.length ≤ i → Ev (fun k => spec_l23Left.l0 k n acc (i : Int) s w l t) (acc ++ left w n (l.drop i)) := by
    refine down _ (fun acc ha => ?_) (fun i hi ih acc ha => ?_)
    · refine Ev.step (fun k => by rw [spec_l23Left.l0]) ?_
      simp only [Int.lt_irrefl, if_false]
      exact evr (Ev.now _) (by simp [left])
    · refine Ev.step (fun k => by rw [spec_l23Left.l0]) ?_
      have hb := hs l[i] (List.getElem_mem hi)
      rw [left_step w n l hi acc]
      simp only [show (i : Int) < (l.length : Int) by omega, Int.natCast_nonneg, if_true, wsucc (show i < 9223372036854775807 by omega), rdB hi, w64 (n := l[i].f1 + w) (by omega) (by omega), show acc.length < 5864062014805 by omega]
      by_cases h : l[i].f1 ≥ n - w
      · simp only [if_pos h, if_pos (show n ≤ l[i].f1 + w by omega)]
        exact ih _ (by simp only [List.length_append, List.length_singleton]; omega)
      · simp only [if_neg h, if_neg (show ¬ n ≤ l[i].f1 + w by omega)]
        exact ih _ (by omega)
  exact key 0 (by omega) [] (by simp)
theorem unlike_iff (a b c : Int) (x : S64) : unlike a b c x = true ↔ x ≠ ⟨a, b, c⟩ := by
  unfold unlike
  rw [Bool.not_eq_true', Bool.and_eq_false_iff, Bool.and_eq_false_iff]
  simp only [beq_eq_false_iff_ne]
  obtain ⟨p, q, r⟩ := x
  simp only [ne_eq, S64.mk.injEq]
  omega
theorem seenOk_iff (s w : Int) (l : List S64) (n : Int) : seenOk s w l n = true ↔ frame s w l n = true ∧ (∀ x ∈ l, ¬ x.f1 < wrap64 (n - w)) ∧ l.Pairwise (· ≠ ·) := by
  unfold seenOk
  rw [Bool.and_eq_true, allFrom_iff]
  constructor
  · rintro ⟨h, hf⟩
    have g : ∀ i, (hi : i < l.length) → ¬ l[i].f1 < wrap64 (n - w) ∧ ∀ j, j < i → (hj : j < l.length) → l[j] ≠ l[i] := fun i hi => by
      have := h i (by omega) hi
      unfold markAt at this
      rw [Bool.and_eq_true, Bool.not_eq_true', decide_eq_false_iff_not, allFrom_iff, rdB hi] at this
      refine ⟨this.1, fun j hj hj2 => ?_⟩
      have h2 := this.2 j (by omega) hj
      unfold other at h2
      rw [rdB hj2] at h2
      exact (unlike_iff _ _ _ _).1 h2
    refine ⟨hf, fun x hx => ?_, List.pairwise_iff_getElem.2 (fun i j hi hj hij => (g j hj).2 i hij hi)⟩
    obtain ⟨i, hi, rfl⟩ := List.getElem_of_mem hx
    exact (g i hi).1
  · rintro ⟨hf, h1, h2⟩
    refine ⟨fun i _ hi => ?_, hf⟩
    unfold markAt
    rw [Bool.and_eq_true, Bool.not_eq_true', decide_eq_false_iff_not, allFrom_iff, rdB hi]
    refine ⟨h1 _ (List.getElem_mem hi), fun j _ hj => ?_⟩
    unfold other
    rw [rdB (show j < l.length by omega)]
    exact (unlike_iff _ _ _ _).2 (List.pairwise_iff_getElem.1 h2 j i (by omega) hi hj)
theorem none_iff (l : List S64) (m : S64) : allFrom (other l m.f0 m.f1 m.f2) l.length 0 = true ↔ m ∉ l := by
  rw [allFrom_iff]
  constructor
  · intro h hm
    obtain ⟨i, hi, e⟩ := List.getElem_of_mem hm
    have := h i (by omega) hi
    unfold other at this
    rw [rdB hi, unlike_iff] at this
    exact this e
  · intro h i _ hi
    unfold other
    rw [rdB hi, unlike_iff]
    intro e
    exact h (by
      have := List.getElem_mem hi
      rw [e] at this
      exact this)
end Go.Proofs.Ytjepmnmakemfoaa.Seen

/- SeenTry at times that a law draws: program and reference come to the same. -/
set_option linter.unusedSimpArgs false
namespace Go.Proofs.Ytjepmnmakemfoaa.Seen
open Go.RowKit Go.Proofs.YtjepmnmakemfoaaW.PrintWords Go.Proofs.YtjepmnmakemfoaaW.PrintMore Go.Proofs.Ytjepmnmakemfoaa.K Go.Proofs.Ytjepmnmakemfoaa.XA Go.Proofs.Ytjepmnmakemfoaa.Base Go.Proofs.Ytjepmnmakemfoaa.RMarkS

/-- What trying a mark answers. -/
def tried (s w : Int) (l : List S64) (t : Int) (m : S64) (n : Int) : Int × Int × List S64 × Int × Int :=
  if m.f1 < 0 then (s, w, l, t, 1) else
  if n - m.f1 > w ∨ m.f1 - n > w then (s, w, l, t, 2) else
  if allFrom (other l m.f0 m.f1 m.f2) l.length 0 = true then
    (if ((left w n l).length : Int) ≥ s then (s, w, l, t, 5) else (s, w, left w n l ++ [⟨m.f0, m.f1, m.f2⟩], n, 0))
  else (s, w, l, t, 4)
theorem impl_try (s w : Int) (l : List S64) (t : Int) (m : S64) (n : Int) (hok : seenOk s w l t = true) (hm0 : 0 ≤ m.f0) (hm1 : -100000 ≤ m.f1 ∧ m.f1 ≤ 100000) (hm2 : 0 ≤ m.f2) (ht : t ≤ n) (hn : n ≤ 100000) :
    Ev (fun k => impl_SeenTry.f k s w l t m.f0 m.f1 m.f2 n) (tried s w l t m n) := by
  obtain ⟨hf, _, _⟩ := (seenOk_iff s w l t).1 hok
  have hfr := hf
  unfold frame at hfr
  simp only [Bool.and_eq_true, decide_eq_true_eq] at hfr
  have hl : l.length ≤ 20 := by omega
  unfold impl_SeenTry.f
  refine Ev.bind (impl_SeenOk s w l t (by omega)) ?_
  have hlen := left_len w n l
  have hcp : impl_copySeen.f s w l t = some (s, w, l, t) := by
    unfold impl_copySeen.f
    rw [if_pos (by simp only [List.length_nil]; omega), List.nil_append]
  simp only [hok, if_true, hcp, Option.bind_some, show ¬ m.f0 < 0 by omega, if_false, show ¬ m.f2 < 0 by omega, within_eq, ht, hn, and_self, decide_true, Bool.not_true]
  unfold tried
  by_cases h1 : m.f1 < 0
  · simp only [if_pos h1]
    refine Ev.step (fun k => by rw [impl_SeenTry.j0]) ?_
    simp only [if_true]
    exact Ev.now _
  · simp only [if_neg h1]
    refine Ev.step (fun k => by rw [impl_SeenTry.j0]) ?_
    simp only [reduceCtorEq, if_false]
    refine Ev.bind (impl_fresh s w l t n (by omega) (by omega) (by omega)) ?_
    simp only [impl_apart.f, Option.bind_some, w64 (n := n - m.f1) (by omega) (by omega), w64 (n := m.f1 - n) (by omega) (by omega)]
    have hmx : mx (n - m.f1) (m.f1 - n) > w ↔ (n - m.f1 > w ∨ m.f1 - n > w) := by
      unfold mx
      split <;> omega
    by_cases h2 : n - m.f1 > w ∨ m.f1 - n > w
    · simp only [if_pos h2, if_pos (hmx.2 h2)]
      exact Ev.now _
    · simp only [if_neg h2, if_neg (fun e => h2 (hmx.1 e))]
      refine Ev.bind (impl_has l m.f0 m.f1 m.f2 (by omega)) ?_
      by_cases h3 : allFrom (other l m.f0 m.f1 m.f2) l.length 0 = true
      · simp only [h3, Bool.not_true, reduceCtorEq, if_false, if_true]
        by_cases h4 : ((left w n l).length : Int) ≥ s
        · simp only [if_pos h4, if_pos (show ((left w n l).length : Int) = s by omega)]
          exact Ev.now _
        · simp only [if_neg h4, if_neg (show ¬ ((left w n l).length : Int) = s by omega), show (left w n l).length < 5864062014805 by omega, if_true]
          exact Ev.now _
      · simp only [Bool.not_eq_true] at h3
        simp only [h3, Bool.not_false, reduceCtorEq, if_false, if_true]
        exact Ev.now _
theorem spec_try (s w : Int) (l : List S64) (t : Int) (m : S64) (n : Int) (hok : seenOk s w l t = true) (hs : Soon l) (hm0 : 0 ≤ m.f0) (hm1 : -100000 ≤ m.f1 ∧ m.f1 ≤ 100000) (hm2 : 0 ≤ m.f2) (ht : t ≤ n) (hn : n ≤ 100000) :
    Ev (fun k => spec_SeenTry.f k s w l t m.f0 m.f1 m.f2 n) (tried s w l t m n) := by
  obtain ⟨hf, _, _⟩ := (seenOk_iff s w l t).1 hok
  have hfr := hf
  unfold frame at hfr
  simp only [Bool.and_eq_true, decide_eq_true_eq] at hfr
  have hl : l.length ≤ 20 := by omega
  unfold spec_SeenTry.f
  refine Ev.bind (spec_SeenOk s w l t (by omega)) ?_
  have hlen := left_len w n l
  simp only [hok, if_true, Option.bind_some, show ([] : List S64).length + l.length < 5864062014805 by simp only [List.length_nil]; omega, List.nil_append, show ¬ m.f0 < 0 by omega, if_false, show ¬ m.f2 < 0 by omega, show ¬ n < t by omega, show ¬ n > 100000 by omega, decide_false]
  unfold tried
  by_cases h1 : m.f1 < 0
  · simp only [if_pos h1]
    refine Ev.step (fun k => by rw [spec_SeenTry.j0]) ?_
    simp only [if_true]
    exact Ev.now _
  · simp only [if_neg h1]
    refine Ev.step (fun k => by rw [spec_SeenTry.j0]) ?_
    simp only [reduceCtorEq, if_false]
    have hap : spec_l7Apart.f m.f1 n w = some (decide (n - m.f1 > w ∨ m.f1 - n > w)) := by
      unfold spec_l7Apart.f
      rw [w64 (n := n - m.f1) (by omega) (by omega), w64 (n := m.f1 - n) (by omega) (by omega)]
      by_cases g : m.f1 - n > w
      · rw [if_pos g]
        simp [g]
      · rw [if_neg g]
        simp [g]
    simp only [hap, Option.bind_some, decide_eq_true_eq]
    by_cases h2 : n - m.f1 > w ∨ m.f1 - n > w
    · simp only [if_pos h2]
      exact Ev.now _
    · simp only [if_neg h2]
      refine Ev.bind (spec_has l m.f0 m.f1 m.f2 (by omega)) ?_
      by_cases h3 : allFrom (other l m.f0 m.f1 m.f2) l.length 0 = true
      · simp only [h3, Bool.not_true, reduceCtorEq, if_false, if_true]
        refine Ev.bind (spec_left s w l t n (by omega) (by omega) hs) ?_
        by_cases h4 : ((left w n l).length : Int) ≥ s
        · simp only [if_pos h4]
          exact Ev.now _
        · simp only [if_neg h4, show (left w n l).length < 5864062014805 by omega, if_true]
          exact Ev.now _
      · simp only [Bool.not_eq_true] at h3
        simp only [h3, Bool.not_false, reduceCtorEq, if_false, if_true]
        exact Ev.now _
end Go.Proofs.Ytjepmnmakemfoaa.Seen

/- What the laws read from their bytes. -/
namespace Go.Proofs.Ytjepmnmakemfoaa.LawAt
open Go.RowKit Go.Proofs.YtjepmnmakemfoaaW.PrintWords Go.Proofs.YtjepmnmakemfoaaW.PrintMore Go.Proofs.Ytjepmnmakemfoaa.K Go.Proofs.Ytjepmnmakemfoaa.XA

theorem byte_of {l : List Int} (hw : ∀ x ∈ l, (Lit.int .u8 x).wf = true) {i : Nat} (hi : i < l.length) : 0 ≤ l[i] ∧ l[i] ≤ 255 := by
  have := hw _ (List.getElem_mem hi)
  simp [Lit.wf, IntKind.min, IntKind.max, IntKind.signed, IntKind.bits] at this
  omega
theorem at_some {l : List Int} (hw : ∀ x ∈ l, (Lit.int .u8 x).wf = true) (hl : l.length ≤ 1125899906842624) (i : Nat) (hi : i ≤ 1000000000) : ∃ b, laws_at.f l (i : Int) = some b ∧ 0 ≤ b ∧ b ≤ 255 := by
  unfold laws_at.f
  by_cases h : (i : Int) < (l.length : Int)
  · have hb := byte_of hw (show i < l.length by omega)
    refine ⟨_, by rw [if_pos h, if_pos (Int.natCast_nonneg i)], ?_⟩
    rw [rd_get (show i < l.length by omega), w64 (by omega) (by omega)]
    exact hb
  · refine ⟨_, by rw [if_neg h], ?_⟩
    rw [w64 (n := (i : Int) * 37) (by omega) (by omega), w64 (n := (l.length : Int) * 11) (by omega) (by omega), w64 (by omega) (by omega)]
    rw [Int.tmod_eq_emod_of_nonneg (by omega)]
    omega
theorem tmod_in {b n : Int} (hb : 0 ≤ b) (hn : 0 < n) : 0 ≤ Int.tmod b n ∧ Int.tmod b n < n := by
  rw [Int.tmod_eq_emod_of_nonneg hb]
  exact ⟨Int.emod_nonneg _ (by omega), Int.emod_lt_of_pos _ hn⟩
end Go.Proofs.Ytjepmnmakemfoaa.LawAt

set_option linter.unusedSimpArgs false
namespace Go.Proofs.Ytjepmnmakemfoaa.Pure
open Go.RowKit Go.Proofs.Ytjepmnmakemfoaa.XA Go.Proofs.YtjepmnmakemfoaaW.PrintWords Go.Proofs.Ytjepmnmakemfoaa.K Go.Proofs.Ytjepmnmakemfoaa.Seen Go.Proofs.Ytjepmnmakemfoaa.LawAt Go.Proofs.Ytjepmnmakemfoaa.RMarkS

/-- What stays true: the cache is right; its marks and those taken are of drawn times; what was taken is in it, or too old for it. -/
structure Kept (s w : Int) (l ys : List S64) (t now : Int) (n : Nat) : Prop where
  ok : seenOk s w l t = true
  soon : ∀ x ∈ l, -100 ≤ x.f1 ∧ x.f1 ≤ 1000
  good : ∀ y ∈ ys, 0 ≤ y.f0 ∧ (-100 ≤ y.f1 ∧ y.f1 ≤ 1000) ∧ 0 ≤ y.f2
  held : ∀ y ∈ ys, y ∈ l ∨ y.f1 < t - w
  short : ys.length ≤ n
  last : t ≤ now
theorem FnSeen : laws_FnSeen.Pure := by
  intro xs hm h8 hw
  refine Ev.rounds (g := fun k => laws_FnSeen.f k xs) ?_
  unfold laws_FnSeen.f laws_big.f
  simp only [Option.bind_some, decide_eq_true_eq]
  by_cases hbig : (xs.length : Int) > 1048576
  · simp only [hbig, if_true]
    exact Ev.now _
  · simp only [hbig, if_false]
    have hl : xs.length ≤ 1125899906842624 := by omega
    obtain ⟨b0, e0, h00, h01⟩ := at_some hw hl 0 (by omega)
    obtain ⟨b1, e1, h10, h11⟩ := at_some hw hl 1 (by omega)
    rw [show laws_at.f xs 0 = some b0 from e0, show laws_at.f xs 1 = some b1 from e1]
    simp only [Option.bind_some]
    have t0 := tmod_in (n := 6) h00 (by omega)
    have t1 := tmod_in (n := 9) h10 (by omega)
    rw [w64 (n := 1 + Int.tmod b0 6) (by omega) (by omega), w64 (n := 1 + Int.tmod b1 9) (by omega) (by omega)]
    generalize hsd : 1 + Int.tmod b0 6 = s
    generalize hwd : 1 + Int.tmod b1 9 = w
    have rs : 1 ≤ s ∧ s ≤ 6 := by omega
    have rw_ : 1 ≤ w ∧ w ≤ 9 := by omega
    have key : ∀ n : Nat, n ≤ 58 → ∀ (l ys : List S64) (t now : Int), Kept s w l ys t now n → 0 ≤ now → now ≤ 2 * n → Ev (fun k => laws_FnSeen.l0 k xs ys now ((2 + n : Nat) : Int) s w l t) true := by
      refine down _ (fun l ys t now T h0 h1 => ?_) (fun n hn ih l ys t now T h0 h1 => ?_)
      · refine Ev.step (fun k => by rw [laws_FnSeen.l0]) ?_
        simp only [show ¬ (((2 + 58 : Nat) : Int) < 60) by omega, if_false]
        exact Ev.now _
      · refine Ev.step (fun k => by rw [laws_FnSeen.l0]) ?_
        have hfr := ((seenOk_iff s w l t).1 T.ok)
        have hfr1 := hfr.1
        unfold frame at hfr1
        simp only [Bool.and_eq_true, decide_eq_true_eq] at hfr1
        obtain ⟨a0, f0, g00, g01⟩ := at_some hw hl (2 + n) (by omega)
        obtain ⟨a1, f1, g10, g11⟩ := at_some hw hl (2 + n + 1) (by omega)
        obtain ⟨a2, f2, g20, g21⟩ := at_some hw hl (2 + n + 2) (by omega)
        obtain ⟨a3, f3, g30, g31⟩ := at_some hw hl (2 + n + 3) (by omega)
        obtain ⟨a4, f4, g40, g41⟩ := at_some hw hl (2 + n + 4) (by omega)
        obtain ⟨a5, f5, g50, g51⟩ := at_some hw hl (2 + n + 5) (by omega)
        have cast : ∀ j : Nat, j ≤ 5 → wrap64 (((2 + n : Nat) : Int) + (j : Int)) = ((2 + n + j : Nat) : Int) := fun j hj => by
          rw [w64 (by omega) (by omega)]
          omega
        have q0 := tmod_in (n := 3) g00 (by omega)
        have q1 := tmod_in (n := 2) g10 (by omega)
        have q2 := tmod_in (n := 9) g20 (by omega)
        have q3 := tmod_in (n := 2) g30 (by omega)
        simp only [show ((2 + n : Nat) : Int) < 60 by omega, if_true, show wrap64 (((2 + n : Nat) : Int) + 1) = ((2 + n + 1 : Nat) : Int) from cast 1 (by omega), show wrap64 (((2 + n : Nat) : Int) + 2) = ((2 + n + 2 : Nat) : Int) from cast 2 (by omega), show wrap64 (((2 + n : Nat) : Int) + 3) = ((2 + n + 3 : Nat) : Int) from cast 3 (by omega), show wrap64 (((2 + n : Nat) : Int) + 4) = ((2 + n + 4 : Nat) : Int) from cast 4 (by omega), f0, f1, f2, f3, f4, Option.bind_some]
        rw [w64 (n := now + Int.tmod a0 3) (by omega) (by omega), w64 (n := now + Int.tmod a0 3 + Int.tmod a2 9) (by omega) (by omega), w64 (n := now + Int.tmod a0 3 + Int.tmod a2 9 - 5) (by omega) (by omega)]
        generalize hz : now + Int.tmod a0 3 = z
        have rz : now ≤ z ∧ z ≤ 2 * (n + 1) := by omega
        -- a right cache, some marks, and how it goes on
        have J4 : ∀ (l' ys' : List S64) (t' : Int), Kept s w l' ys' t' z (n + 1) → Ev (fun k => laws_FnSeen.j4 k xs ys' z ((2 + n : Nat) : Int) s w l' t') true := by
          intro l' ys' t' T'
          have hfr2 := ((seenOk_iff s w l' t').1 T'.ok).1
          unfold frame at hfr2
          simp only [Bool.and_eq_true, decide_eq_true_eq] at hfr2
          have so : Soon l' := fun x hx => by have := T'.soon x hx; omega
          have hll := left_len w z l'
          have cs : Ev (fun k => spec_SeenCount.f k s w l' t' z) ((left w z l').length : Int) := by
            unfold spec_SeenCount.f
            refine Ev.bind (spec_SeenOk s w l' t' (by omega)) ?_
            simp only [T'.ok, if_true]
            refine Ev.bind (spec_left s w l' t' z (by omega) (by omega) so) ?_
            exact Ev.now _
          have ci : Ev (fun k => impl_SeenCount.f k s w l' t' z) ((left w z l').length : Int) := by
            unfold impl_SeenCount.f
            refine Ev.bind (impl_SeenOk s w l' t' (by omega)) ?_
            simp only [T'.ok, if_true]
            refine Ev.bind (impl_fresh s w l' t' z (by omega) (by omega) (by omega)) ?_
            exact Ev.now _
          refine Ev.step (fun k => by rw [laws_FnSeen.j4]) ?_
          refine Ev.bind (spec_SeenOk s w l' t' (by omega)) ?_
          simp only [T'.ok, if_true]
          refine Ev.bind ci ?_
          simp only [show ¬ ((left w z l').length : Int) > s by omega, if_false]
          refine Ev.bind ci ?_
          refine Ev.bind cs ?_
          simp only [if_true, show wrap64 (((2 + n : Nat) : Int) + 1) = ((2 + n + 1 : Nat) : Int) from cast 1 (by omega)]
          exact ih l' ys' t' z T' (by omega) (by omega)
        have keepT : Kept s w l ys t z (n + 1) := ⟨T.ok, T.soon, T.good, T.held, by have := T.short; omega, by have := T.last; omega⟩
        have J2 : ∀ m : S64, 0 ≤ m.f0 → (-100 ≤ m.f1 ∧ m.f1 ≤ 1000) → 0 ≤ m.f2 → Ev (fun k => laws_FnSeen.j2 k xs ys z ((2 + n : Nat) : Int) s w l t m.f0 m.f1 m.f2) true := by
          intro m m0 m1 m2
          have so : Soon l := fun x hx => by have := T.soon x hx; omega
          have htz : t ≤ z := by have := T.last; omega
          refine Ev.step (fun k => by rw [laws_FnSeen.j2]) ?_
          refine Ev.bind (impl_try s w l t m z T.ok m0 (by omega) m2 htz (by omega)) ?_
          refine Ev.bind (spec_try s w l t m z T.ok so m0 (by omega) m2 htz (by omega)) ?_
          have stay : Ev (fun k => laws_FnSeen.j4 k xs ys z ((2 + n : Nat) : Int) s w l t) true := J4 l ys t keepT
          unfold tried
          by_cases c1 : m.f1 < 0
          · simp only [if_pos c1, if_true, show ¬ (1 : Int) = 0 by omega, if_false]
            exact stay
          · by_cases c2 : z - m.f1 > w ∨ m.f1 - z > w
            · simp only [if_neg c1, if_pos c2, if_true, show ¬ (2 : Int) = 0 by omega, if_false]
              exact stay
            · by_cases c3 : allFrom (other l m.f0 m.f1 m.f2) l.length 0 = true
              · by_cases c4 : ((left w z l).length : Int) ≥ s
                · simp only [if_neg c1, if_neg c2, if_pos c3, if_pos c4, if_true, show ¬ (5 : Int) = 0 by omega, if_false]
                  exact stay
                · simp only [if_neg c1, if_neg c2, if_pos c3, if_neg c4, if_true]
                  have hml : m ∉ l := (none_iff l m).1 c3
                  have hmy : ∀ y ∈ ys, y ≠ m := fun y hy e => by
                    subst e
                    rcases T.held y hy with h | h
                    · exact hml h
                    · omega
                  have hsh := T.short
                  have T' : Kept s w (left w z l ++ [m]) (ys ++ [m]) z z (n + 1) := by
                    refine ⟨(seenOk_iff _ _ _ _).2 ⟨?_, ?_, ?_⟩, ?_, ?_, ?_, ?_, Int.le_refl _⟩
                    · unfold frame
                      simp only [Bool.and_eq_true, decide_eq_true_eq, List.length_append, List.length_singleton]
                      omega
                    · intro x hx
                      rw [w64 (by omega) (by omega)]
                      rcases List.mem_append.1 hx with hx | hx
                      · have := (List.mem_filter.1 hx).2
                        rw [decide_eq_true_eq] at this
                        omega
                      · rw [List.mem_singleton.1 hx]
                        omega
                    · refine List.pairwise_append.2 ⟨hfr.2.2.filter _, List.pairwise_singleton _ _, fun x hx y hy e => ?_⟩
                      rw [List.mem_singleton.1 hy] at e
                      exact hml (e ▸ (List.mem_filter.1 hx).1)
                    · intro x hx
                      rcases List.mem_append.1 hx with hx | hx
                      · exact T.soon x (List.mem_filter.1 hx).1
                      · rw [List.mem_singleton.1 hx]
                        exact m1
                    · intro y hy
                      rcases List.mem_append.1 hy with hy | hy
                      · exact T.good y hy
                      · rw [List.mem_singleton.1 hy]
                        exact ⟨m0, m1, m2⟩
                    · intro y hy
                      rcases List.mem_append.1 hy with hy | hy
                      · rcases T.held y hy with h | h
                        · by_cases hq : y.f1 ≥ z - w
                          · exact .inl (List.mem_append_left _ (List.mem_filter.2 ⟨h, decide_eq_true hq⟩))
                          · exact .inr (by omega)
                        · exact .inr (by omega)
                      · exact .inl (List.mem_append_right _ hy)
                    · simp only [List.length_append, List.length_singleton]
                      omega
                  have loop : ∀ j, j ≤ ys.length → Ev (fun k => laws_FnSeen.l1 k xs ys z ((2 + n : Nat) : Int) (j : Int) m.f0 m.f1 m.f2 s w (left w z l ++ [m]) z) true := by
                    refine down _ ?_ (fun j hj ih2 => ?_)
                    · refine Ev.step (fun k => by rw [laws_FnSeen.l1]) ?_
                      simp only [Int.lt_irrefl, if_false, show ys.length < 5864062014805 by omega, if_true]
                      exact J4 _ _ _ T'
                    · refine Ev.step (fun k => by rw [laws_FnSeen.l1]) ?_
                      have hne := hmy ys[j] (List.getElem_mem hj)
                      have e : (ys[j].f0 == m.f0 && (ys[j].f1 == m.f1 && ys[j].f2 == m.f2)) = false := by
                        have := (unlike_iff m.f0 m.f1 m.f2 ys[j]).2 hne
                        unfold unlike at this
                        rw [Bool.not_eq_true'] at this
                        exact this
                      simp only [show (j : Int) < (ys.length : Int) by omega, Int.natCast_nonneg, if_true, rdB hj, e, reduceCtorEq, if_false, wsucc (show j < 9223372036854775807 by omega)]
                      exact ih2
                  exact loop 0 (by omega)
              · simp only [if_neg c1, if_neg c2, if_neg c3, if_true, show ¬ (4 : Int) = 0 by omega, if_false]
                exact stay
        have fresh : Ev (fun k => laws_FnSeen.j1 k xs ys z ((2 + n : Nat) : Int) false s w l t (Int.tmod a1 2) (z + Int.tmod a2 9 - 5) (Int.tmod a3 2)) true := by
          refine Ev.step (fun k => by rw [laws_FnSeen.j1]) ?_
          simp only [reduceCtorEq, if_false]
          exact J2 ⟨Int.tmod a1 2, z + Int.tmod a2 9 - 5, Int.tmod a3 2⟩ q1.1 ⟨by show -100 ≤ z + Int.tmod a2 9 - 5; omega, by show z + Int.tmod a2 9 - 5 ≤ 1000; omega⟩ q3.1
        by_cases hy0 : (ys.length : Int) > 0
        · simp only [if_pos hy0]
          cases hb : (Int.tmod a4 3 == 0)
          · exact fresh
          · refine Ev.step (fun k => by rw [laws_FnSeen.j1]) ?_
            have q5 := tmod_in (n := (ys.length : Int)) g50 (by omega)
            obtain ⟨p, hp⟩ := Int.eq_ofNat_of_zero_le q5.1
            have hpl : p < ys.length := by omega
            simp only [if_true, show wrap64 (((2 + n : Nat) : Int) + 5) = ((2 + n + 5 : Nat) : Int) from cast 5 (by omega), f5, Option.bind_some, show ¬ (ys.length : Int) = 0 by omega, if_false, hp, Int.natCast_nonneg, show (p : Int) < (ys.length : Int) by omega, rdB hpl]
            have := T.good ys[p] (List.getElem_mem hpl)
            exact J2 ys[p] this.1 this.2.1 this.2.2
        · simp only [if_neg hy0]
          exact fresh
    refine key 0 (by omega) [] [] 0 0 ⟨(seenOk_iff _ _ _ _).2 ⟨?_, by simp, List.Pairwise.nil⟩, by simp, by simp, by simp, by simp, Int.le_refl _⟩ (by omega) (by omega)
    unfold frame
    simp only [Bool.and_eq_true, decide_eq_true_eq, List.length_nil]
    omega
end Go.Proofs.Ytjepmnmakemfoaa.Pure

namespace Go.Proofs.Ytjepmnmakemfoaa.fnSeen
open Go.ChangeShapes Go.WideShapes Go.ChangeAt Go.RowKit
open Go.ChangeMaps (open_string shut_string)
set_option linter.unusedVariables false
theorem own : ownKnob Try.prog.godebug = none := by kernel_rfl
theorem laidOut : laidOutB Try.prog = true := by kernel_rfl
def IsRow (k : IntKind) (w : World) (a : Option Addr) (len cap : Nat) (zs : List Int) : Prop :=
  (a = none ∧ len = 0 ∧ cap = 0 ∧ zs = []) ∨
  ∃ x, a = some x ∧ len ≤ cap ∧ cap ≤ maxLen ∧ zs.length = cap ∧ (∀ i, i < zs.length → w.cell? (x.add i) = some (.int k (zs.getD i 0))) ∧ ∀ n ∈ zs, (Lit.int k n).wf = true
set_option maxRecDepth 100000 in
theorem lifted (os : Os) (started : os.Started) (H : Type) (enc : TypeId × Value → H) :
    ReturnsInHanded {} Try.checked os 13 .any (Rows.fnSeenSpec.pre6 enc Try.prog Try.f13 Rows.fnSeenRow.domain false) (Rows.fnSeenSpec.post enc Try.prog Try.f13 false true false false) := by
  refine returnsInHanded_of_change_sized (C := Try.checked) own started (by kernel_rfl) Try.func13
    (ChangeSpec.witness6 (enc := enc) (C := Try.checked) false ⟨#[], #[.slice none 0 0], []⟩ 8 (by kernel_rfl) (by kernel_rfl) (by kernel_rfl) (by kernel_rfl)) ?_
  intro W base args ds gs before hval0 hW hcnd hsz0 _
  have hsz : (DataW.weightsEach Try.prog (Try.f13.params.toList ++ Rows.fnSeenSpec.plain.varTypes Try.prog) (ds ++ gs)).all (· ≤ reachBytes) = true := hsz0
  have hval : ∀ (j : Nat) t v, Try.f13.params[j]? = some t → args[j]? = some v → Value.okWide Try.prog W .any base t v := hval0
  have hW' := hW
  obtain ⟨p, q, hA0, hV, rfl, hfz, hnd⟩ := hW
  have hA : DataW.TrodAll enc Try.prog W 0 (fun _ => true) true Try.f13.params.toList args.toList ds p := hA0
  rw [Try.params13] at hA hval hsz
  obtain ⟨v0, vs0, d0, ds0, p0, q0, hargs, rfl, rfl, h0, r0⟩ := trodAll_cons hA
  obtain ⟨rfl, rfl, rfl⟩ := trodAll_nil r0
  obtain rfl : args = #[v0] := by cases args; simp_all
  obtain ⟨rfl, rfl⟩ := trodVars_none hV
  obtain ⟨a0, len0, cap0, rfl⟩ := okWide_slice Try.underlying44 (hval 0 44 v0 rfl rfl)
  have k0 := h0
  have lt0 : ∀ x ∈ p0, x.block < W.heap.size := by obtain ⟨m, hm⟩ := k0; exact DataW.trod_lt m _ _ _ hm
  obtain ⟨z0, w0⟩ : ∃ zs, IsRow .u8 W a0 len0 cap0 zs := by
    obtain ⟨fuel, hf⟩ := h0
    rcases open_ints Try.underlying44 Try.underlying5 (by kernel_rfl) hf with ⟨hcs, _⟩ | ⟨x, l, c, zs, hcs, _, hl, hm, hz, _, hcell, hwz⟩
    · simp [Value.cells] at hcs
      obtain ⟨rfl, rfl, rfl⟩ := hcs
      exact ⟨[], .inl ⟨rfl, rfl, rfl, rfl⟩⟩
    · simp [Value.cells] at hcs
      obtain ⟨rfl, rfl, rfl⟩ := hcs
      exact ⟨zs, .inr ⟨_, rfl, hl, hm, by simpa using hz, hcell, hwz⟩⟩
  have y0 : len0 * 1 ≤ 140737488351232 := Go.Proofs.YtjepmnmakemfoaaW.PrintWords.sized_ints hsz (j := 0) (t := 44) rfl rfl Try.underlying44 Try.underlying5 (by kernel_rfl) (by kernel_rfl) h0
  clear hA0 hval0 hsz0 hsz
  refine (XA.laws_FnSeen.walk Pure.FnSeen a0 len0 cap0 z0 W w0 y0).mono fun e W' ⟨he, bel⟩ => ?_
  subst he
  exact ⟨_, rfl, _, _, _, [], _, [], hW', trodAll_mk1 (shut_bool Try.underlying4 _), (trodAll_cons_mk (Below.trod laidOut (by kernel_rfl) (of_decide_eq_true (by kernel_rfl)) k0 bel lt0) trodAll_mk0), rfl, bel.frame _, fun h => by cases h⟩
theorem over : Rows.fnSeenRow.holds Try.pinned (OpenSpec.ofChange Rows.fnSeenSpec) :=
  OpenClaim.holds_of_wide 13 Try.f13 rfl rfl rfl rfl rfl rfl rfl ⟨rfl, rfl, rfl, rfl, rfl⟩ rfl rfl rfl rfl rfl (by kernel_rfl) Try.func13 (by kernel_rfl)
    (of_decide_eq_true (by kernel_rfl)) (by unfold Func.isWrapper; first | (rw [if_pos (by decide +kernel)]; kernel_rfl) | (rw [if_neg (by decide +kernel)]; exact ⟨rfl, rfl⟩))
    (fun os started H enc _ => lifted os started H enc)
theorem proved : Rows.FnSeenSaid := over
#print axioms proved
end Go.Proofs.Ytjepmnmakemfoaa.fnSeen
namespace Go.Proofs.Ytjepmnmakemfoaa
/-- The row, under a short name, for the claim. -/
theorem fnSeen_holds : Rows.FnSeenSaid := fnSeen.proved
end Go.Proofs.Ytjepmnmakemfoaa
