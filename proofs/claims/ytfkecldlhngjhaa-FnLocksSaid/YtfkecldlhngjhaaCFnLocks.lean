/- The law on locks: what a lock refuses changes nothing; a lock that is right stays right. Conditions: none beside those of the given row. -/
import Derived.Test.YtfkecldlhngjhaaCFnLocksa
import Derived.Test.YtfkecldlhngjhaaCFnLocksd
import Derived.Test.YtfkecldlhngjhaaCFnLockse
import Derived.Test.YtfkecldlhngjhaaCFnLocksb
import Derived.Test.YtfkecldlhngjhaaCFnLocksc
import Derived.Test.YtfkecldlhngjhaaRows
import Derived.WalkKit
import Derived.ProofKit
import Derived.OpenShut
import Derived.ShutString
import Derived.ChangeOld
import Derived.Below
import Derived.SizedLaws
import Derived.Test.YtfkecldlhngjhaaCFnLockswa
/- Small lemmas on loops with rounds, on numbers that wrap round and on lists: what all pure laws of this seat use. -/
namespace Go.Proofs.Ytfkecldlhngjhaa.K
open Go.RowKit Go.Proofs.YtfkecldlhngjhaaW.PrintWords

theorem w64 {n : Int} (h0 : -9223372036854775808 ≤ n) (h1 : n ≤ 9223372036854775807) : wrap64 n = n := by
  unfold wrap64
  omega
theorem wsucc {i : Nat} (h : i < 9223372036854775807) : wrap64 ((i : Int) + 1) = ((i + 1 : Nat) : Int) := by
  unfold wrap64
  omega
theorem wadd1 {i : Int} (h0 : -1 ≤ i) (h : i < 9223372036854775807) : wrap64 (i + 1) = i + 1 := by
  unfold wrap64
  omega
theorem rdn (l : List Int) (i : Nat) : rd l (i : Int) = l.getD i 0 := rfl
theorem rd_get {l : List Int} {i : Nat} (h : i < l.length) : rd l (i : Int) = l[i] := by
  rw [rdn, List.getD_eq_getElem?_getD, List.getElem?_eq_getElem h]
  rfl
theorem wf_rd {l : List Int} (hw : ∀ x ∈ l, (Lit.int .i64 x).wf = true) (i : Int) : -9223372036854775808 ≤ rd l i ∧ rd l i ≤ 9223372036854775807 := by
  unfold rd
  rw [List.getD_eq_getElem?_getD]
  rcases h : l[i.toNat]? with _ | x
  · simp
  · have := hw x (List.mem_of_getElem? h)
    simp [Lit.wf, IntKind.min, IntKind.max, IntKind.signed, IntKind.bits] at this
    simpa using this
theorem wf_int {x : Int} (h : (Lit.int .i64 x).wf = true) : -9223372036854775808 ≤ x ∧ x ≤ 9223372036854775807 := by
  simp [Lit.wf, IntKind.min, IntKind.max, IntKind.signed, IntKind.bits] at h
  exact h
/-- From the last round back to the first. -/
theorem down {P : Nat → Prop} (n : Nat) (hend : P n) (hstep : ∀ i, i < n → P (i + 1) → P i) : ∀ i, i ≤ n → P i := by
  intro i hi
  obtain ⟨d, rfl⟩ : ∃ d, n = i + d := ⟨n - i, by omega⟩
  clear hi
  induction d generalizing i with
  | zero => exact hend
  | succ d ih => exact hstep i (by omega) (ih (i + 1) (by rw [show i + 1 + d = i + (d + 1) by omega]; exact hend) (fun j hj => hstep j (by omega)))
theorem evr {α : Type} {g : Nat → Option α} {r r' : α} (h : Ev g r) (e : r = r') : Ev g r' := e ▸ h
theorem evc {α : Type} {o : Option α} {r : α} (h : o = some r) : Ev (fun _ => o) r := ⟨0, fun _ _ => h⟩
theorem evu {α : Type} {g : Nat → Option α} {r r' : α} (h : Ev g r) (h' : Ev g r') : r = r' := by
  obtain ⟨K, h⟩ := h
  obtain ⟨K', h'⟩ := h'
  have h1 := h (max K K') (by omega)
  have h2 := h' (max K K') (by omega)
  rw [h1] at h2
  exact Option.some.inj h2
theorem drop_eq_iff {α : Type} {a b : List α} {i : Nat} (hi : i < a.length) (hj : i < b.length) : a.drop i = b.drop i ↔ a[i] = b[i] ∧ a.drop (i + 1) = b.drop (i + 1) := by
  rw [List.drop_eq_getElem_cons hi, List.drop_eq_getElem_cons hj, List.cons.injEq]
end Go.Proofs.Ytfkecldlhngjhaa.K

/- What the laws' own helpers on lists of numbers come to: a copy is the list, two lists are told alike just where they are, marks are found again. -/
namespace Go.Proofs.Ytfkecldlhngjhaa.Ints
open Go.RowKit Go.Proofs.YtfkecldlhngjhaaW.PrintWords Go.Proofs.YtfkecldlhngjhaaW.PrintMore Go.Proofs.Ytfkecldlhngjhaa.K Go.Proofs.Ytfkecldlhngjhaa.XA

theorem toIntS (l : List Int) (hl : l.length ≤ 35184372088832) : Ev (fun k => laws_toIntS.f k l) l := by
  unfold laws_toIntS.f
  simp only [Int.natCast_nonneg, Int.toNat_natCast, hl, if_true]
  have key : ∀ i, i ≤ l.length → ∀ acc : List Int, acc.length = l.length → Ev (fun k => laws_toIntS.l0 k l acc (i : Int)) (acc.take i ++ l.drop i) := by
    refine down _ (fun acc ha => ?_) (fun i hi ih acc ha => ?_)
    · refine Ev.step (fun k => by rw [laws_toIntS.l0]) ?_
      simp only [Int.lt_irrefl, if_false]
      exact evr (Ev.now _) (by simp [← ha])
    · refine Ev.step (fun k => by rw [laws_toIntS.l0]) ?_
      have h1 : (i : Int) < (l.length : Int) := by omega
      have h2 : (i : Int) < (acc.length : Int) := by omega
      simp only [h1, h2, Int.natCast_nonneg, if_true, wsucc (show i < 9223372036854775807 by omega), Int.toNat_natCast, rd_get hi]
      refine evr (ih (acc.set i l[i]) (by simp [ha])) ?_
      rw [← List.getElem_cons_drop hi, List.take_succ_eq_append_getElem (by simp; omega), List.getElem_set_self, List.take_set_of_le (by omega), List.append_assoc]
      rfl
  refine evr (key 0 (by omega) _ (by simp)) (by simp)

theorem eqIntS_l (a b : List Int) (hl : a.length = b.length) (hb : a.length < 9223372036854775807) : Ev (fun k => laws_eqIntS.l0 k a b 0) (decide (a = b)) := by
  have key : ∀ i, i ≤ a.length → Ev (fun k => laws_eqIntS.l0 k a b (i : Int)) (decide (a.drop i = b.drop i)) := by
    refine down _ ?_ (fun i hi ih => ?_)
    · refine Ev.step (fun k => by rw [laws_eqIntS.l0]) ?_
      simp only [Int.lt_irrefl, if_false]
      exact evr (Ev.now _) (by simp [hl])
    · refine Ev.step (fun k => by rw [laws_eqIntS.l0]) ?_
      have h1 : (i : Int) < (a.length : Int) := by omega
      have h2 : (i : Int) < (b.length : Int) := by omega
      simp only [h1, h2, Int.natCast_nonneg, if_true, wsucc (show i < 9223372036854775807 by omega), rd_get hi, rd_get (show i < b.length by omega)]
      by_cases h : a[i] = b[i]'(by omega)
      · simp only [h, if_true]
        exact evr ih (decide_eq_decide.2 (by rw [drop_eq_iff hi (show i < b.length by omega)]; exact (and_iff_right h).symm))
      · simp only [h, if_false]
        exact evr (Ev.now _) (decide_eq_false (by rw [drop_eq_iff hi (show i < b.length by omega)]; exact fun h2 => h h2.1)).symm
  exact evr (key 0 (by omega)) (by simp)
theorem eqIntS (a b : List Int) (hb : a.length < 9223372036854775807) : Ev (fun k => laws_eqIntS.f k a b) (decide (a = b)) := by
  unfold laws_eqIntS.f
  by_cases h : a.length = b.length
  · simp only [h, if_true]
    exact eqIntS_l a b h hb
  · have h' : ¬ ((a.length : Int) = (b.length : Int)) := by omega
    simp only [h', if_false]
    exact evr (Ev.now _) (by
      symm
      rw [decide_eq_false_iff_not]
      intro e
      exact h (by rw [e]))

/-- What marking leaves: the numbers from k on. -/
def marks (k : Int) (n : Nat) : List Int := (List.range n).map fun i : Nat => k + (i : Int)
theorem marks_length (k : Int) (n : Nat) : (marks k n).length = n := by simp [marks]
theorem marks_get (k : Int) (n i : Nat) (h : i < n) : (marks k n)[i]'(by rw [marks_length]; exact h) = k + i := by simp [marks]
theorem markIntS (l : List Int) (m : Int) (hl : l.length ≤ 1125899906842624) (h0 : 0 ≤ m) (h1 : m ≤ 1125899906842624) : Ev (fun k => laws_markIntS.f k l m) (m + l.length, marks m l.length) := by
  unfold laws_markIntS.f
  have key : ∀ i, i ≤ l.length → ∀ acc : List Int, acc.length = l.length → acc.take i = (marks m l.length).take i → Ev (fun k => laws_markIntS.l0 k acc (m + i) (i : Int)) (m + l.length, marks m l.length) := by
    refine down _ (fun acc ha hp => ?_) (fun i hi ih acc ha hp => ?_)
    · refine Ev.step (fun k => by rw [laws_markIntS.l0]) ?_
      simp only [ha, Int.lt_irrefl, if_false]
      refine evr (Ev.now _) ?_
      rw [List.take_of_length_le (by omega), List.take_of_length_le (by rw [marks_length]; omega)] at hp
      rw [hp]
    · refine Ev.step (fun k => by rw [laws_markIntS.l0]) ?_
      have h2 : (i : Int) < (acc.length : Int) := by omega
      simp only [h2, Int.natCast_nonneg, if_true, wsucc (show i < 9223372036854775807 by omega), Int.toNat_natCast]
      rw [w64 (by omega) (by omega), show m + (i : Int) + 1 = m + ((i + 1 : Nat) : Int) by omega]
      refine ih _ (by simp [ha]) ?_
      rw [List.take_succ_eq_append_getElem (by simp; omega), List.take_succ_eq_append_getElem (by rw [marks_length]; omega), List.getElem_set_self, List.take_set_of_le (by omega), hp, marks_get _ _ _ hi]
  have := key 0 (by omega) l rfl (by simp)
  simpa using this
theorem heldIntS (l : List Int) (m : Int) (hl : l.length ≤ 1125899906842624) (h0 : 0 ≤ m) (h1 : m ≤ 1125899906842624) (he : l = marks m l.length) : Ev (fun k => laws_heldIntS.f k l m) (m + l.length) := by
  unfold laws_heldIntS.f
  have key : ∀ i, i ≤ l.length → Ev (fun k => laws_heldIntS.l0 k l (m + i) (i : Int)) (m + l.length) := by
    refine down _ ?_ (fun i hi ih => ?_)
    · refine Ev.step (fun k => by rw [laws_heldIntS.l0]) ?_
      simp only [Int.lt_irrefl, if_false]
      exact Ev.now _
    · refine Ev.step (fun k => by rw [laws_heldIntS.l0]) ?_
      have h2 : (i : Int) < (l.length : Int) := by omega
      have h3 : l[i] = m + i := by
        have := marks_get m l.length i hi
        simp only [← he] at this
        exact this
      simp only [h2, Int.natCast_nonneg, if_true, wsucc (show i < 9223372036854775807 by omega), rd_get hi, h3]
      rw [w64 (by omega) (by omega), show m + (i : Int) + 1 = m + ((i + 1 : Nat) : Int) by omega]
      exact ih
  have := key 0 (by omega)
  simpa using this
end Go.Proofs.Ytfkecldlhngjhaa.Ints

/- What the functions on clocks come to, in the program and in the reference alike. -/
set_option linter.unusedSimpArgs false
namespace Go.Proofs.Ytfkecldlhngjhaa.Clocks
open Go.RowKit Go.Proofs.YtfkecldlhngjhaaW.PrintWords Go.Proofs.YtfkecldlhngjhaaW.PrintMore Go.Proofs.Ytfkecldlhngjhaa.K Go.Proofs.Ytfkecldlhngjhaa.XA

theorem l1In_eq (a b c : Int) : spec_l1In.f a b c = some (decide (b ≤ a ∧ a ≤ c)) := by
  unfold spec_l1In.f
  by_cases h : a ≥ b
  · rw [if_pos h]
    simp [show b ≤ a from h]
  · rw [if_neg h]
    simp [show ¬ b ≤ a from h]
theorem within_eq (a b c : Int) : impl_within.f a b c = some (decide (b ≤ a ∧ a ≤ c)) := by
  unfold impl_within.f
  by_cases h : a ≥ b
  · rw [if_pos h]
    simp [show b ≤ a from h]
  · rw [if_neg h]
    simp [show ¬ b ≤ a from h]
theorem isTime_eq (a : Int) : impl_isTime.f a = some (decide (0 ≤ a ∧ a ≤ 100000)) := by
  unfold impl_isTime.f
  rw [within_eq]
  rfl

def okC (x : Int) : Bool := decide (-1000 ≤ x ∧ x ≤ 1000)
def clocksOk (l : List Int) : Bool := decide (l.length ≤ 8) && l.all okC
theorem clocksOk_len {l : List Int} (h : clocksOk l = true) : l.length ≤ 8 := by
  unfold clocksOk at h
  simp at h
  exact h.1
theorem clocksOk_get {l : List Int} (h : clocksOk l = true) {i : Nat} (hi : i < l.length) : -1000 ≤ l[i] ∧ l[i] ≤ 1000 := by
  unfold clocksOk at h
  simp only [Bool.and_eq_true, List.all_eq_true] at h
  have := h.2 _ (List.getElem_mem hi)
  unfold okC at this
  exact of_decide_eq_true this
theorem clocksOk_rd {l : List Int} (h : clocksOk l = true) {i : Int} (h0 : 0 ≤ i) (hi : i < l.length) : -1000 ≤ rd l i ∧ rd l i ≤ 1000 := by
  obtain ⟨n, rfl⟩ := Int.eq_ofNat_of_zero_le h0
  rw [rd_get (show n < l.length by omega)]
  exact clocksOk_get h _

theorem spec_ClocksOk (l : List Int) (hl : l.length ≤ 1125899906842624) : Ev (fun k => spec_ClocksOk.f k l) (clocksOk l) := by
  unfold spec_ClocksOk.f clocksOk
  by_cases h : (l.length : Int) > 8
  · simp only [h, if_true]
    exact evr (Ev.now _) (by simp [show ¬ l.length ≤ 8 by omega])
  · simp only [h, if_false, show l.length ≤ 8 by omega, decide_true, Bool.true_and]
    have key : ∀ i, i ≤ l.length → Ev (fun k => spec_ClocksOk.l0 k l (i : Int)) ((l.drop i).all okC) := by
      refine down _ ?_ (fun i hi ih => ?_)
      · refine Ev.step (fun k => by rw [spec_ClocksOk.l0]) ?_
        simp only [Int.lt_irrefl, if_false]
        exact evr (Ev.now _) (by simp)
      · refine Ev.step (fun k => by rw [spec_ClocksOk.l0]) ?_
        have h1 : (i : Int) < (l.length : Int) := by omega
        simp only [h1, Int.natCast_nonneg, if_true, l1In_eq, Option.bind_some, wsucc (show i < 9223372036854775807 by omega), rd_get hi]
        rw [List.drop_eq_getElem_cons hi, List.all_cons]
        by_cases h : -1000 ≤ l[i] ∧ l[i] ≤ 1000
        · simp only [h, and_self, decide_true, if_true, okC, Bool.true_and]
          exact ih
        · simp only [h, decide_false, if_false, okC, Bool.false_and, reduceCtorEq]
          exact Ev.now _
    exact evr (key 0 (by omega)) (by simp)

theorem impl_ClocksOk (l : List Int) (hl : l.length ≤ 1125899906842624) : Ev (fun k => impl_ClocksOk.f k l) (clocksOk l) := by
  unfold impl_ClocksOk.f impl_areAll_53.f
  refine Ev.bind (a := clocksOk l) ?_ (Ev.now _)
  have key : ∀ i, i ≤ l.length → Ev (fun k => impl_areAll_53.l0 k l 8 l (l.length : Int) (i : Int)) (decide (l.length ≤ 8) && (l.drop i).all okC) := by
    refine down _ ?_ (fun i hi ih => ?_)
    · refine Ev.step (fun k => by rw [impl_areAll_53.l0]) ?_
      simp only [Int.lt_irrefl, if_false]
      refine evr (Ev.now _) ?_
      simp only [List.drop_length, List.all_nil, Bool.and_true]
      exact decide_eq_decide.2 (by omega)
    · refine Ev.step (fun k => by rw [impl_areAll_53.l0]) ?_
      have h1 : (i : Int) < (l.length : Int) := by omega
      simp only [h1, Int.natCast_nonneg, if_true, impl_ClocksOk_1.f, within_eq, Option.bind_some, wsucc (show i < 9223372036854775807 by omega), rd_get hi]
      rw [List.drop_eq_getElem_cons hi, List.all_cons]
      by_cases h : -1000 ≤ l[i] ∧ l[i] ≤ 1000
      · simp only [h, and_self, decide_true, if_true, okC, Bool.true_and]
        exact ih
      · simp only [h, decide_false, if_false, okC, Bool.false_and, reduceCtorEq, Bool.and_false]
        exact Ev.now _
  exact evr (key 0 (by omega)) (by simp [clocksOk])

/-- What the clock i tells. -/
def localAt (l : List Int) (i n : Int) : Int :=
  if clocksOk l = true ∧ 0 ≤ i ∧ i < l.length ∧ 0 ≤ n ∧ n ≤ 100000 ∧ 0 ≤ n + rd l i then n + rd l i else 0
theorem spec_LocalAt (l : List Int) (i n : Int) (hl : l.length ≤ 1125899906842624) : Ev (fun k => spec_LocalAt.f k l i n) (localAt l i n) := by
  unfold spec_LocalAt.f localAt
  refine Ev.bind (spec_ClocksOk l hl) ?_
  by_cases hc : clocksOk l = true
  · simp only [hc, if_true, true_and, l1In_eq, Option.bind_some]
    by_cases h1 : i < 0
    · simp only [h1, if_true]
      exact evr (Ev.now _) (by rw [if_neg]; omega)
    · by_cases h2 : i ≥ (l.length : Int)
      · simp only [h1, h2, if_true, if_false]
        exact evr (Ev.now _) (by rw [if_neg]; omega)
      · by_cases h3 : 0 ≤ n ∧ n ≤ 100000
        · have hr := clocksOk_rd hc (i := i) (by omega) (by omega)
          simp only [h1, h2, h3, show 0 ≤ i by omega, show i < (l.length : Int) by omega, if_true, if_false, decide_true, true_and, and_true, w64 (n := n + rd l i) (by omega) (by omega)]
          by_cases h4 : n + rd l i < 0
          · simp only [h4, if_true]
            exact evr (Ev.now _) (by rw [if_neg]; omega)
          · simp only [h4, if_false]
            exact evr (Ev.now _) (by rw [if_pos]; omega)
        · simp only [h1, h2, h3, if_true, if_false, decide_false, reduceCtorEq]
          exact evr (Ev.now _) (by rw [if_neg]; omega)
  · simp only [hc, if_false, reduceCtorEq, false_and]
    exact Ev.now _
theorem impl_LocalAt (l : List Int) (i n : Int) (hl : l.length ≤ 1125899906842624) : Ev (fun k => impl_LocalAt.f k l i n) (localAt l i n) := by
  unfold impl_LocalAt.f localAt
  refine Ev.bind (impl_ClocksOk l hl) ?_
  by_cases hc : clocksOk l = true
  · simp only [hc, if_true, true_and, within_eq, isTime_eq, Option.bind_some, w64 (n := (l.length : Int) - 1) (by omega) (by omega)]
    by_cases h1 : 0 ≤ i ∧ i ≤ (l.length : Int) - 1
    · by_cases h3 : 0 ≤ n ∧ n ≤ 100000
      · have hr := clocksOk_rd hc (i := i) (by omega) (by omega)
        simp only [h1, h3, show 0 ≤ i by omega, show i < (l.length : Int) by omega, if_true, decide_true, true_and, and_true, w64 (n := n + rd l i) (by omega) (by omega)]
        refine evr (Ev.now _) ?_
        unfold mx
        by_cases h4 : 0 ≤ n + rd l i
        · rw [if_pos h4]
          split <;> omega
        · rw [if_neg h4, if_neg (by omega)]
      · simp only [h1, h3, decide_true, decide_false, if_true, if_false, reduceCtorEq]
        exact evr (Ev.now _) (by rw [if_neg]; omega)
    · simp only [h1, decide_false, if_false, reduceCtorEq]
      exact evr (Ev.now _) (by rw [if_neg]; omega)
  · simp only [hc, if_false, reduceCtorEq, false_and]
    exact Ev.now _
end Go.Proofs.Ytfkecldlhngjhaa.Clocks

/- How far clocks are apart, and how one is slewed: in the program and in the reference alike. -/
set_option linter.unusedSimpArgs false
namespace Go.Proofs.Ytfkecldlhngjhaa.Clocks
open Go.RowKit Go.Proofs.YtfkecldlhngjhaaW.PrintWords Go.Proofs.YtfkecldlhngjhaaW.PrintMore Go.Proofs.Ytfkecldlhngjhaa.K Go.Proofs.Ytfkecldlhngjhaa.XA

def spread (l : List Int) : Int := if clocksOk l = true ∧ l ≠ [] then (l.foldl max (rd l 0)) - (l.foldl min (rd l 0)) else 0

theorem foldl_max_in {l : List Int} {m a b : Int} (hm : a ≤ m ∧ m ≤ b) (h : ∀ x ∈ l, a ≤ x ∧ x ≤ b) : a ≤ l.foldl max m ∧ l.foldl max m ≤ b := by
  induction l generalizing m with
  | nil => exact hm
  | cons x l ih =>
    have hx := h x (by simp)
    exact ih (m := max m x) (by omega) (fun y hy => h y (by simp [hy]))
theorem foldl_min_in {l : List Int} {m a b : Int} (hm : a ≤ m ∧ m ≤ b) (h : ∀ x ∈ l, a ≤ x ∧ x ≤ b) : a ≤ l.foldl min m ∧ l.foldl min m ≤ b := by
  induction l generalizing m with
  | nil => exact hm
  | cons x l ih =>
    have hx := h x (by simp)
    exact ih (m := min m x) (by omega) (fun y hy => h y (by simp [hy]))
theorem clocksOk_mem {l : List Int} (h : clocksOk l = true) : ∀ x ∈ l, -1000 ≤ x ∧ x ≤ 1000 := by
  intro x hx
  obtain ⟨i, hi, rfl⟩ := List.getElem_of_mem hx
  exact clocksOk_get h hi
theorem spread_wrap {l : List Int} (h : clocksOk l = true) (hn : 0 < l.length) : wrap64 ((l.foldl max (rd l 0)) - (l.foldl min (rd l 0))) = (l.foldl max (rd l 0)) - (l.foldl min (rd l 0)) := by
  have h0 := clocksOk_rd h (i := 0) (by omega) (by omega)
  have h1 := foldl_max_in h0 (clocksOk_mem h)
  have h2 := foldl_min_in h0 (clocksOk_mem h)
  exact w64 (by omega) (by omega)
theorem Max_eq (l : List Int) (h0 : 0 < l.length) (hl : l.length ≤ 1125899906842624) : Ev (fun k => slices_Max_int_int.f k l) (l.foldl max (rd l 0)) := by
  unfold slices_Max_int_int.f
  simp only [show ¬ ((l.length : Int) < 1) by omega, show (0 : Int) < (l.length : Int) by omega, if_true, if_false]
  have key : ∀ i, i ≤ l.length → ∀ m, Ev (fun k => slices_Max_int_int.l0 k l m (i : Int)) ((l.drop i).foldl max m) := by
    refine down _ (fun m => ?_) (fun i hi ih m => ?_)
    · refine Ev.step (fun k => by rw [slices_Max_int_int.l0]) ?_
      simp only [Int.lt_irrefl, if_false]
      exact evr (Ev.now _) (by simp)
    · refine Ev.step (fun k => by rw [slices_Max_int_int.l0]) ?_
      simp only [show (i : Int) < (l.length : Int) by omega, Int.natCast_nonneg, if_true, wsucc (show i < 9223372036854775807 by omega), rd_get hi]
      refine evr (ih _) ?_
      rw [List.drop_eq_getElem_cons hi, List.foldl_cons]
      congr 1
      unfold mx
      split <;> omega
  refine evr (key 1 (by omega) _) ?_
  conv => rhs; rw [← List.drop_zero (l := l), List.drop_eq_getElem_cons h0, List.foldl_cons]
  congr 1
  rw [show rd ((l[0]) :: List.drop (0 + 1) l) 0 = l[0] from rfl, show rd l 0 = l[0] from rd_get (i := 0) h0]
  omega
theorem Min_eq (l : List Int) (h0 : 0 < l.length) (hl : l.length ≤ 1125899906842624) : Ev (fun k => slices_Min_int_int.f k l) (l.foldl min (rd l 0)) := by
  unfold slices_Min_int_int.f
  simp only [show ¬ ((l.length : Int) < 1) by omega, show (0 : Int) < (l.length : Int) by omega, if_true, if_false]
  have key : ∀ i, i ≤ l.length → ∀ m, Ev (fun k => slices_Min_int_int.l0 k l m (i : Int)) ((l.drop i).foldl min m) := by
    refine down _ (fun m => ?_) (fun i hi ih m => ?_)
    · refine Ev.step (fun k => by rw [slices_Min_int_int.l0]) ?_
      simp only [Int.lt_irrefl, if_false]
      exact evr (Ev.now _) (by simp)
    · refine Ev.step (fun k => by rw [slices_Min_int_int.l0]) ?_
      simp only [show (i : Int) < (l.length : Int) by omega, Int.natCast_nonneg, if_true, wsucc (show i < 9223372036854775807 by omega), rd_get hi]
      refine evr (ih _) ?_
      rw [List.drop_eq_getElem_cons hi, List.foldl_cons]
      congr 1
      unfold mn
      split <;> omega
  refine evr (key 1 (by omega) _) ?_
  conv => rhs; rw [← List.drop_zero (l := l), List.drop_eq_getElem_cons h0, List.foldl_cons]
  congr 1
  rw [show rd ((l[0]) :: List.drop (0 + 1) l) 0 = l[0] from rfl, show rd l 0 = l[0] from rd_get (i := 0) h0]
  omega
theorem impl_Spread (l : List Int) (hl : l.length ≤ 1125899906842624) : Ev (fun k => impl_Spread.f k l) (spread l) := by
  unfold impl_Spread.f spread
  refine Ev.bind (impl_ClocksOk l hl) ?_
  by_cases hc : clocksOk l = true
  · by_cases h0 : l = []
    · subst h0
      simp only [hc, if_true, ne_eq, not_true_eq_false, and_false, if_false, List.length_nil, Int.natCast_zero, beq_self_eq_true]
      refine Ev.step (fun k => by rw [impl_Spread.j0]) ?_
      simp only [if_true]
      exact Ev.now _
    · have hn : 0 < l.length := List.length_pos_iff.2 h0
      have hz : ((l.length : Int) == 0) = false := beq_eq_false_iff_ne.2 (by omega)
      simp only [hc, if_true, ne_eq, h0, not_false_eq_true, and_self, hz]
      refine Ev.step (fun k => by rw [impl_Spread.j0]) ?_
      simp only [reduceCtorEq, if_false]
      refine Ev.bind (Max_eq l hn hl) ?_
      refine Ev.bind (Min_eq l hn hl) ?_
      exact evr (Ev.now _) (spread_wrap hc hn)
  · simp only [hc, if_false, reduceCtorEq, false_and]
    refine Ev.step (fun k => by rw [impl_Spread.j0]) ?_
    simp only [if_true]
    exact Ev.now _
theorem spec_Spread (l : List Int) (hl : l.length ≤ 1125899906842624) : Ev (fun k => spec_Spread.f k l) (spread l) := by
  unfold spec_Spread.f spread
  refine Ev.bind (spec_ClocksOk l hl) ?_
  by_cases hc : clocksOk l = true
  · by_cases h0 : l = []
    · subst h0
      simp only [hc, if_true, ne_eq, not_true_eq_false, and_false, if_false, List.length_nil, Int.natCast_zero, beq_self_eq_true]
      refine Ev.step (fun k => by rw [spec_Spread.j0]) ?_
      simp only [if_true]
      exact Ev.now _
    · have hn : 0 < l.length := List.length_pos_iff.2 h0
      have hz : ((l.length : Int) == 0) = false := beq_eq_false_iff_ne.2 (by omega)
      simp only [hc, if_true, ne_eq, h0, not_false_eq_true, and_self, hz]
      refine Ev.step (fun k => by rw [spec_Spread.j0]) ?_
      simp only [reduceCtorEq, show (0 : Int) < (l.length : Int) by omega, if_true, if_false]
      have key : ∀ i, i ≤ l.length → ∀ m M, Ev (fun k => spec_Spread.l0 k l m M (i : Int)) (wrap64 ((l.drop i).foldl max M - (l.drop i).foldl min m)) := by
        refine down _ (fun m M => ?_) (fun i hi ih m M => ?_)
        · refine Ev.step (fun k => by rw [spec_Spread.l0]) ?_
          simp only [Int.lt_irrefl, if_false]
          exact evr (Ev.now _) (by simp)
        · refine Ev.step (fun k => by rw [spec_Spread.l0]) ?_
          simp only [show (i : Int) < (l.length : Int) by omega, Int.natCast_nonneg, if_true, wsucc (show i < 9223372036854775807 by omega), rd_get hi]
          rw [List.drop_eq_getElem_cons hi, List.foldl_cons, List.foldl_cons]
          by_cases h1 : l[i] < m <;> by_cases h2 : l[i] > M <;> simp only [h1, h2, if_true, if_false]
          · exact evr (ih _ _) (by rw [show max M l[i] = l[i] by omega, show min m l[i] = l[i] by omega])
          · exact evr (ih _ _) (by rw [show max M l[i] = M by omega, show min m l[i] = l[i] by omega])
          · exact evr (ih _ _) (by rw [show max M l[i] = l[i] by omega, show min m l[i] = m by omega])
          · exact evr (ih _ _) (by rw [show max M l[i] = M by omega, show min m l[i] = m by omega])
      exact evr (key 0 (by omega) _ _) (spread_wrap hc hn)
  · simp only [hc, if_false, reduceCtorEq, false_and]
    refine Ev.step (fun k => by rw [spec_Spread.j0]) ?_
    simp only [if_true]
    exact Ev.now _

/-- A clock, slewed. -/
def slew1 (x m : Int) : Int := if x > m then x - m else if -x > m then x + m else 0
def slew (l : List Int) (i m : Int) : List Int := if clocksOk l = true then (if 0 ≤ i ∧ i < l.length ∧ 0 ≤ m then l.set i.toNat (slew1 (rd l i) m) else l) else []
theorem slew_wrap {x m : Int} (h0 : -1000 ≤ x) (h1 : x ≤ 1000) (hm : 0 ≤ m) : (if x > m then wrap64 (x - m) else if wrap64 (-x) > m then wrap64 (x + m) else 0) = slew1 x m := by
  unfold slew1
  rw [w64 (n := -x) (by omega) (by omega)]
  split
  · exact w64 (by omega) (by omega)
  · split
    · exact w64 (by omega) (by omega)
    · rfl
theorem copyInts_eq (l : List Int) (hl : l.length ≤ 1125899906842) : impl_copyInts.f l = some l := by
  unfold impl_copyInts.f
  rw [if_pos (by simp only [List.length_nil]; omega)]
  rfl
theorem impl_Slew (l : List Int) (i m : Int) (hl : l.length ≤ 1125899906842) : Ev (fun k => impl_Slew.f k l i m) (slew l i m) := by
  unfold impl_Slew.f slew
  refine Ev.bind (impl_ClocksOk l (by omega)) ?_
  by_cases hc : clocksOk l = true
  · simp only [hc, if_true, copyInts_eq l hl, Option.bind_some, within_eq, w64 (n := (l.length : Int) - 1) (by omega) (by omega)]
    by_cases h1 : 0 ≤ i ∧ i ≤ (l.length : Int) - 1
    · simp only [h1, and_self, decide_true, if_true]
      refine Ev.step (fun k => by rw [impl_Slew.j0]) ?_
      by_cases h2 : m < 0
      · simp only [h2, decide_true, if_true]
        exact evr (Ev.now _) (by rw [if_neg]; omega)
      · have hr := clocksOk_rd hc (i := i) (by omega) (by omega)
        simp only [h2, decide_false, reduceCtorEq, if_false, show 0 ≤ i by omega, show i < (l.length : Int) by omega, show 0 ≤ m by omega, and_self, if_true]
        rw [← slew_wrap hr.1 hr.2 (show 0 ≤ m by omega)]
        by_cases h3 : rd l i > m
        · simp only [h3, if_true]
          exact Ev.now _
        · by_cases h4 : wrap64 (-(rd l i)) > m <;> simp only [h3, h4, if_true, if_false] <;> exact Ev.now _
    · simp only [h1, decide_false, if_false, reduceCtorEq]
      refine Ev.step (fun k => by rw [impl_Slew.j0]) ?_
      simp only [if_true]
      exact evr (Ev.now _) (by rw [if_neg]; omega)
  · simp only [hc, if_false, reduceCtorEq, false_and]
    exact Ev.now _
theorem spec_Slew (l : List Int) (i m : Int) (hl : l.length ≤ 1125899906842) : Ev (fun k => spec_Slew.f k l i m) (slew l i m) := by
  unfold spec_Slew.f slew
  refine Ev.bind (spec_ClocksOk l (by omega)) ?_
  have stay : Ev (fun k => spec_Slew.j0 k l i m l true) l := by
    refine Ev.step (fun k => by rw [spec_Slew.j0]) ?_
    simp only [if_true]
    exact Ev.now _
  by_cases hc : clocksOk l = true
  · simp only [hc, if_true, Option.bind_some, List.length_nil, Nat.zero_add, show l.length < 17592186044416 by omega, List.nil_append]
    by_cases h1 : i < 0
    · simp only [h1, if_true]
      exact evr stay (by rw [if_neg]; omega)
    · by_cases h2 : i ≥ (l.length : Int)
      · simp only [h1, h2, if_true, if_false]
        exact evr stay (by rw [if_neg]; omega)
      · by_cases h3 : m < 0
        · simp only [h1, h2, h3, if_false, decide_true]
          exact evr stay (by rw [if_neg]; omega)
        · have hr := clocksOk_rd hc (i := i) (by omega) (by omega)
          simp only [h1, h2, h3, if_false, decide_false]
          refine Ev.step (fun k => by rw [spec_Slew.j0]) ?_
          simp only [reduceCtorEq, if_true, if_false, show 0 ≤ i by omega, show i < (l.length : Int) by omega, show 0 ≤ m by omega, and_self]
          rw [← slew_wrap hr.1 hr.2 (show 0 ≤ m by omega)]
          by_cases h5 : rd l i > m
          · simp only [h5, if_true]
            exact Ev.now _
          · by_cases h4 : wrap64 (-(rd l i)) > m <;> simp only [h5, h4, if_true, if_false] <;> exact Ev.now _
  · simp only [hc, if_false, reduceCtorEq, false_and, Option.bind_some]
    exact Ev.now _
theorem slew_length (l : List Int) (i m : Int) : (slew l i m).length ≤ l.length := by
  unfold slew
  split
  · split <;> simp
  · simp
end Go.Proofs.Ytfkecldlhngjhaa.Clocks

/- A test of each place of a list, from one on. -/
namespace Go.Proofs.Ytfkecldlhngjhaa.K
/-- A test of each place from i on. -/
def allFrom (q : Nat → Bool) (n i : Nat) : Bool := (List.range' i (n - i)).all q
theorem allFrom_end (q : Nat → Bool) (n : Nat) : allFrom q n n = true := by simp [allFrom]
theorem allFrom_step (q : Nat → Bool) {n i : Nat} (h : i < n) : allFrom q n i = (q i && allFrom q n (i + 1)) := by
  unfold allFrom
  rw [show n - i = (n - (i + 1)) + 1 by omega, List.range'_succ, List.all_cons]
theorem allFrom_iff (q : Nat → Bool) (n i : Nat) : allFrom q n i = true ↔ ∀ j, i ≤ j → j < n → q j = true := by
  unfold allFrom
  rw [List.all_eq_true]
  refine ⟨fun h j h1 h2 => h j (List.mem_range'_1.2 (by omega)), fun h j hj => ?_⟩
  have := List.mem_range'_1.1 hj
  exact h j (by omega) (by omega)
theorem allFrom_congr {q q' : Nat → Bool} {n : Nat} (h : ∀ j, j < n → q j = q' j) (i : Nat) : allFrom q n i = allFrom q' n i := by
  rw [Bool.eq_iff_iff, allFrom_iff, allFrom_iff]
  exact ⟨fun k j h1 h2 => (h j h2) ▸ k j h1 h2, fun k j h1 h2 => (h j h2).symm ▸ k j h1 h2⟩
end Go.Proofs.Ytfkecldlhngjhaa.K

/- What the functions on locks come to, in the program and in the reference alike. -/
set_option linter.unusedSimpArgs false
namespace Go.Proofs.Ytfkecldlhngjhaa.Locks
open Go.RowKit Go.Proofs.YtfkecldlhngjhaaW.PrintWords Go.Proofs.YtfkecldlhngjhaaW.PrintMore Go.Proofs.Ytfkecldlhngjhaa.K Go.Proofs.Ytfkecldlhngjhaa.XA Go.Proofs.Ytfkecldlhngjhaa.Clocks

def ruleOk (t w l : Int) : Bool := decide (1 ≤ t ∧ t ≤ 10) && (decide (1 ≤ w ∧ w ≤ 1000) && decide (1 ≤ l ∧ l ≤ 1000))
def failAt (fs : List Int) (i : Nat) : Bool := decide (0 ≤ rd fs i ∧ rd fs i ≤ 100000) && !(decide (0 < i ∧ rd fs (i - 1 : Nat) > rd fs i))
def lockOk (t w l : Int) (fs : List Int) (u : Int) : Bool :=
  (allFrom (failAt fs) fs.length 0 && ruleOk t w l) && (decide ((fs.length : Int) < t) && decide (0 ≤ u ∧ u ≤ 101000))

theorem l21Rule_eq (t w l : Int) : spec_l21Rule.f t w l = some (ruleOk t w l) := by
  unfold spec_l21Rule.f ruleOk
  simp only [l1In_eq, Option.bind_some]
  by_cases h1 : 1 ≤ t ∧ t ≤ 10 <;> by_cases h2 : 1 ≤ w ∧ w ≤ 1000 <;> simp [h1, h2]
theorem failAt_first {fs : List Int} {i : Nat} (hi : i < fs.length) (h : ¬ (0 ≤ fs[i] ∧ fs[i] ≤ 100000)) : failAt fs i = false := by
  unfold failAt
  rw [rd_get hi]
  simp [h]
theorem failAt_zero {fs : List Int} (hi : 0 < fs.length) (h : (0 : Int) ≤ fs[0] ∧ fs[0] ≤ 100000) : failAt fs 0 = true := by
  unfold failAt
  rw [rd_get hi]
  simp only [Nat.lt_irrefl, false_and, decide_false, Bool.not_false, Bool.and_true, decide_eq_true_eq]
  exact h
theorem failAt_pos {fs : List Int} {i : Nat} (hi : i < fs.length) (h0 : 0 < i) (h : 0 ≤ fs[i] ∧ fs[i] ≤ 100000) : failAt fs i = !decide (rd fs (i - 1 : Nat) > fs[i]) := by
  unfold failAt
  rw [rd_get hi]
  simp [h, h0]
theorem pred_cast {i : Nat} (h : 0 < i) (hi : i < 9223372036854775807) : wrap64 ((i : Int) - 1) = ((i - 1 : Nat) : Int) := by
  rw [w64 (by omega) (by omega)]
  omega
theorem spec_LockOk (t w l : Int) (fs : List Int) (u : Int) (hl : fs.length ≤ 1125899906842624) : Ev (fun k => spec_LockOk.f k t w l fs u) (lockOk t w l fs u) := by
  unfold spec_LockOk.f lockOk
  simp only [l21Rule_eq, Option.bind_some, l1In_eq]
  have no : Ev (fun k => spec_LockOk.j0 k true fs u) false := by
    refine Ev.step (fun k => by rw [spec_LockOk.j0]) ?_
    simp only [if_true]
    exact Ev.now _
  by_cases hr : ruleOk t w l = true
  · simp only [hr, if_true, Bool.and_true]
    by_cases ht : (fs.length : Int) ≥ t
    · simp only [ht, if_true]
      exact evr no (by simp [show ¬ ((fs.length : Int) < t) by omega])
    · simp only [ht, if_false]
      by_cases hu : 0 ≤ u ∧ u ≤ 101000
      · simp only [hu, and_self, decide_true, Bool.not_true, show (fs.length : Int) < t by omega, Bool.and_true]
        refine Ev.step (fun k => by rw [spec_LockOk.j0]) ?_
        simp only [reduceCtorEq, if_false]
        have key : ∀ i, i ≤ fs.length → Ev (fun k => spec_LockOk.l0 k (i : Int) fs u) (allFrom (failAt fs) fs.length i) := by
          refine down _ ?_ (fun i hi ih => ?_)
          · refine Ev.step (fun k => by rw [spec_LockOk.l0]) ?_
            simp only [Int.lt_irrefl, if_false]
            exact evr (Ev.now _) (allFrom_end _ _).symm
          · refine Ev.step (fun k => by rw [spec_LockOk.l0]) ?_
            rw [allFrom_step _ hi]
            simp only [show (i : Int) < (fs.length : Int) by omega, Int.natCast_nonneg, if_true, l1In_eq, Option.bind_some, wsucc (show i < 9223372036854775807 by omega), rd_get hi]
            by_cases hx : 0 ≤ fs[i] ∧ fs[i] ≤ 100000
            · simp only [hx, and_self, decide_true, if_true]
              by_cases h0 : 0 < i
              · simp only [show (i : Int) > 0 by omega, if_true, pred_cast h0 (show i < 9223372036854775807 by omega), Int.natCast_nonneg, show ((i - 1 : Nat) : Int) < (fs.length : Int) by omega]
                rw [failAt_pos hi h0 hx]
                by_cases hq : rd fs ((i - 1 : Nat) : Int) > fs[i]
                · simp only [hq, if_true, decide_true, Bool.not_true, Bool.false_and]
                  exact Ev.now _
                · simp only [hq, if_false, decide_false, Bool.not_false, Bool.true_and]
                  exact ih
              · obtain rfl : i = 0 := by omega
                rw [failAt_zero hi hx]
                simp only [Int.natCast_zero, gt_iff_lt, Int.lt_irrefl, if_false, Bool.true_and]
                exact ih
            · simp only [hx, decide_false, reduceCtorEq, if_false]
              exact evr (Ev.now _) (by rw [failAt_first hi hx]; rfl)
        exact key 0 (by omega)
      · simp only [hu, decide_false, Bool.not_false, Bool.and_false]
        exact no
  · simp only [hr, if_false, Bool.and_false, Bool.false_and]
    exact no
theorem impl_LockOk (t w l : Int) (fs : List Int) (u : Int) (hl : fs.length ≤ 1125899906842624) : Ev (fun k => impl_LockOk.f k t w l fs u) (lockOk t w l fs u) := by
  unfold impl_LockOk.f lockOk
  have key : ∀ i, i ≤ fs.length → Ev (fun k => impl_LockOk.l0 k fs (fs.length : Int) (i : Int) t w l fs u) ((allFrom (failAt fs) fs.length i && ruleOk t w l) && (decide ((fs.length : Int) < t) && decide (0 ≤ u ∧ u ≤ 101000))) := by
    refine down _ ?_ (fun i hi ih => ?_)
    · refine Ev.step (fun k => by rw [impl_LockOk.l0]) ?_
      simp only [Int.lt_irrefl, if_false, within_eq, Option.bind_some, allFrom_end, Bool.true_and, ruleOk]
      by_cases h1 : 1 ≤ t ∧ t ≤ 10 <;> by_cases h2 : 1 ≤ w ∧ w ≤ 1000 <;> by_cases h3 : 1 ≤ l ∧ l ≤ 1000 <;> by_cases h4 : (fs.length : Int) < t <;> simp only [h1, h2, h3, h4, and_self, decide_true, decide_false, reduceCtorEq, if_true, if_false, Bool.true_and, Bool.and_true, Bool.false_and, Bool.and_false] <;> exact Ev.now _
    · refine Ev.step (fun k => by rw [impl_LockOk.l0]) ?_
      rw [allFrom_step _ hi]
      simp only [show (i : Int) < (fs.length : Int) by omega, Int.natCast_nonneg, if_true, isTime_eq, Option.bind_some, wsucc (show i < 9223372036854775807 by omega), rd_get hi]
      by_cases hx : 0 ≤ fs[i] ∧ fs[i] ≤ 100000
      · simp only [hx, and_self, decide_true, if_true]
        by_cases h0 : 0 < i
        · simp only [show (i : Int) > 0 by omega, if_true, pred_cast h0 (show i < 9223372036854775807 by omega), Int.natCast_nonneg, show ((i - 1 : Nat) : Int) < (fs.length : Int) by omega]
          rw [failAt_pos hi h0 hx]
          by_cases hq : rd fs ((i - 1 : Nat) : Int) > fs[i]
          · simp only [hq, if_true, decide_true, Bool.not_true, Bool.false_and]
            exact Ev.now _
          · simp only [hq, if_false, decide_false, Bool.not_false, Bool.true_and]
            exact ih
        · obtain rfl : i = 0 := by omega
          rw [failAt_zero hi hx]
          simp only [Int.natCast_zero, gt_iff_lt, Int.lt_irrefl, if_false, Bool.true_and]
          exact ih
      · simp only [hx, decide_false, reduceCtorEq, if_false]
        exact evr (Ev.now _) (by rw [failAt_first hi hx]; simp)
  exact key 0 (by omega)

theorem toLock (fs : List Int) (u : Int) (hl : fs.length ≤ 35184372088832) : Ev (fun k => laws_toLock.f k fs u) (fs, u) := by
  unfold laws_toLock.f
  exact Ev.bind (Ints.toIntS fs hl) (Ev.now _)
theorem eqLock (a : List Int) (x : Int) (hl : a.length ≤ 35184372088832) : Ev (fun k => laws_eqLock.f k a x a x) true := by
  unfold laws_eqLock.f
  refine Ev.bind (Ints.eqIntS a a (by omega)) ?_
  simp only [decide_true, if_true]
  exact Ev.now _
theorem szLock (fs : List Int) (u : Int) (hl : fs.length ≤ 9223372036854775807) : laws_szLock.f fs u 1048576 = some (if fs.length ≤ 1048576 then 1048576 - (fs.length : Int) else -1) := by
  unfold laws_szLock.f laws_szIntS.f
  rw [w64 (n := 1048576 - (fs.length : Int)) (by omega) (by omega)]
  by_cases h : fs.length ≤ 1048576
  · rw [if_neg (by omega), Option.bind_some, if_neg (by omega), if_pos h]
  · rw [if_pos (by omega), Option.bind_some, if_neg h]
    rfl
end Go.Proofs.Ytfkecldlhngjhaa.Locks

/- Copies and marks of locks. -/
set_option linter.unusedSimpArgs false
namespace Go.Proofs.Ytfkecldlhngjhaa.Locks
open Go.RowKit Go.Proofs.YtfkecldlhngjhaaW.PrintWords Go.Proofs.YtfkecldlhngjhaaW.PrintMore Go.Proofs.Ytfkecldlhngjhaa.K Go.Proofs.Ytfkecldlhngjhaa.XA Go.Proofs.Ytfkecldlhngjhaa.Clocks

theorem copyLock_eq (fs : List Int) (u : Int) (hl : fs.length ≤ 1125899906842) : impl_copyLock.f fs u = some (fs, u) := by
  unfold impl_copyLock.f
  rw [copyInts_eq fs hl]
  rfl
theorem l21Copy_eq (fs : List Int) (u : Int) (hl : fs.length ≤ 1125899906842) : spec_l21Copy.f fs u = some (fs, u) := by
  unfold spec_l21Copy.f
  rw [Option.bind_some, if_pos (by simp only [List.length_nil]; omega), List.nil_append]
theorem markLock (fs : List Int) (u : Int) (hl : fs.length ≤ 1125899906842624) : Ev (fun k => laws_markLock.f k fs u 1) (1 + (fs.length : Int), Ints.marks 1 fs.length) := by
  unfold laws_markLock.f
  exact Ev.bind (Ints.markIntS fs 1 hl (by omega) (by omega)) (Ev.now _)
theorem heldLock (n : Nat) (u : Int) (hl : n ≤ 1125899906842624) : Ev (fun k => laws_heldLock.f k (Ints.marks 1 n) u 1) (1 + (n : Int)) := by
  unfold laws_heldLock.f
  refine Ev.bind (evr (Ints.heldIntS (Ints.marks 1 n) 1 (by rw [Ints.marks_length]; omega) (by omega) (by omega) (by rw [Ints.marks_length])) (by rw [Ints.marks_length])) ?_
  simp only [show ¬ (1 + (n : Int)) < 0 by omega, if_false]
  exact Ev.now _
end Go.Proofs.Ytfkecldlhngjhaa.Locks

/- LockGood: program and reference come to the same. -/
set_option linter.unusedSimpArgs false
namespace Go.Proofs.Ytfkecldlhngjhaa.Locks
open Go.RowKit Go.Proofs.YtfkecldlhngjhaaW.PrintWords Go.Proofs.YtfkecldlhngjhaaW.PrintMore Go.Proofs.Ytfkecldlhngjhaa.K Go.Proofs.Ytfkecldlhngjhaa.XA Go.Proofs.Ytfkecldlhngjhaa.Clocks

/-- What LockGood answers. -/
def good (t w l : Int) (fs : List Int) (u a : Int) : List Int × Int × Bool :=
  if lockOk t w l fs u = true then (if a < u then (fs, u, false) else ([], u, true)) else ([], 0, false)
theorem good_len (t w l : Int) (fs : List Int) (u a : Int) : (good t w l fs u a).1.length ≤ fs.length := by
  unfold good
  split
  · split
    · exact Nat.le_refl _
    · simp
  · simp
theorem spec_LockGood (t w l : Int) (fs : List Int) (u a : Int) (hl : fs.length ≤ 1125899906842) : Ev (fun k => spec_LockGood.f k t w l fs u a) (good t w l fs u a) := by
  unfold spec_LockGood.f good
  refine Ev.bind (spec_LockOk t w l fs u (by omega)) ?_
  by_cases h : lockOk t w l fs u = true
  · simp only [h, if_true, spec_LockedAt.f, Option.bind_some, decide_eq_true_eq, l21Copy_eq fs u hl]
    by_cases ha : a < u
    · simp only [ha, if_true]
      exact Ev.now _
    · simp only [ha, if_false]
      exact Ev.now _
  · simp only [h, if_false]
    exact Ev.now _
theorem impl_LockGood (t w l : Int) (fs : List Int) (u a : Int) (hl : fs.length ≤ 1125899906842) : Ev (fun k => impl_LockGood.f k t w l fs u a) (good t w l fs u a) := by
  unfold impl_LockGood.f good
  refine Ev.bind (impl_LockOk t w l fs u (by omega)) ?_
  by_cases h : lockOk t w l fs u = true
  · simp only [h, if_true, impl_LockedAt.f, Option.bind_some, decide_eq_true_eq, copyLock_eq fs u hl]
    by_cases ha : a < u
    · simp only [ha, if_true]
      exact Ev.now _
    · simp only [ha, if_false]
      exact Ev.now _
  · simp only [h, if_false]
    exact Ev.now _

end Go.Proofs.Ytfkecldlhngjhaa.Locks

/- LockFail: program and reference come to the same. -/
set_option linter.unusedSimpArgs false
namespace Go.Proofs.Ytfkecldlhngjhaa.Locks
open Go.RowKit Go.Proofs.YtfkecldlhngjhaaW.PrintWords Go.Proofs.YtfkecldlhngjhaaW.PrintMore Go.Proofs.Ytfkecldlhngjhaa.K Go.Proofs.Ytfkecldlhngjhaa.XA Go.Proofs.Ytfkecldlhngjhaa.Clocks

theorem lockOk_short {t w l : Int} {fs : List Int} {u : Int} (h : lockOk t w l fs u = true) : (fs.length : Int) < t ∧ t ≤ 10 := by
  unfold lockOk ruleOk at h
  simp only [Bool.and_eq_true, decide_eq_true_eq] at h
  omega
/-- The wrong tries that still count at a. -/
def near (w : Int) (fs : List Int) (a : Int) : List Int := fs.filter (fun x => decide (wrap64 (a - x) ≤ w))
/-- What LockFail answers where it is open and the time is right. -/
def failed (t w l : Int) (fs : List Int) (u a : Int) : List Int × Int × Bool :=
  if ((near w fs a).length : Int) + 1 ≥ t then ([], wrap64 (a + l), true) else (near w fs a ++ [a], u, true)
/-- Is the time one that LockFail takes? -/
def timely (fs : List Int) (a : Int) : Bool := decide (0 ≤ a ∧ a ≤ 100000) && !(decide (0 < fs.length) && decide (a < rd fs ((fs.length - 1 : Nat) : Int)))
def fail (t w l : Int) (fs : List Int) (u a : Int) : List Int × Int × Bool :=
  if lockOk t w l fs u = true then (if a < u then (fs, u, false) else (if timely fs a = true then failed t w l fs u a else (fs, u, false))) else ([], 0, false)
theorem near_len (w : Int) (fs : List Int) (a : Int) : (near w fs a).length ≤ fs.length := List.length_filter_le _ _
theorem fail_len (t w l : Int) (fs : List Int) (u a : Int) : (fail t w l fs u a).1.length ≤ fs.length + 1 := by
  have := near_len w fs a
  unfold fail failed
  split
  · split
    · simp
    · split
      · split
        · simp
        · simp only [List.length_append, List.length_singleton]
          omega
      · simp
  · simp
theorem near_step (w : Int) (fs : List Int) (a : Int) {i : Nat} (hi : i < fs.length) : near w (fs.drop i) a = (if wrap64 (a - fs[i]) ≤ w then fs[i] :: near w (fs.drop (i + 1)) a else near w (fs.drop (i + 1)) a) := by
  unfold near
  rw [List.drop_eq_getElem_cons hi, List.filter_cons]
  simp only [decide_eq_true_eq]
theorem spec_failed (t w l : Int) (fs : List Int) (u a : Int) (hl : fs.length ≤ 10) : ∀ i, i ≤ fs.length → ∀ acc : List Int, acc.length ≤ i →
    Ev (fun k => spec_LockFail.l0 k a (fs.length : Int) (i : Int) t w l fs u acc u) (if ((acc ++ near w (fs.drop i) a).length : Int) + 1 ≥ t then ([], wrap64 (a + l), true) else (acc ++ near w (fs.drop i) a ++ [a], u, true)) := by
  refine down _ (fun acc ha => ?_) (fun i hi ih acc ha => ?_)
  · refine Ev.step (fun k => by rw [spec_LockFail.l0]) ?_
    simp only [Int.lt_irrefl, if_false, show acc.length < 17592186044416 by omega, if_true, Option.bind_some]
    rw [List.drop_length, show near w [] a = [] from rfl, List.append_nil]
    have hq : ((acc ++ [a]).length : Int) = (acc.length : Int) + 1 := by simp
    simp only [hq]
    by_cases hc : (acc.length : Int) + 1 ≥ t
    · simp only [hc, if_true]
      exact Ev.now _
    · simp only [hc, if_false]
      exact Ev.now _
  · refine Ev.step (fun k => by rw [spec_LockFail.l0]) ?_
    simp only [show (i : Int) < (fs.length : Int) by omega, Int.natCast_nonneg, if_true, wsucc (show i < 9223372036854775807 by omega), rd_get hi, show acc.length < 17592186044416 by omega]
    rw [near_step w fs a hi]
    by_cases hc : wrap64 (a - fs[i]) ≤ w
    · simp only [hc, if_true]
      refine evr (ih (acc ++ [fs[i]]) (by simp only [List.length_append, List.length_singleton]; omega)) ?_
      rw [List.append_assoc]
      rfl
    · simp only [hc, if_false]
      exact ih acc (by omega)
theorem impl_failed (t w l : Int) (fs : List Int) (u a : Int) (hl : fs.length ≤ 10) (hlt : (fs.length : Int) < t) : ∀ i, i ≤ fs.length → ∀ acc : List Int, acc.length ≤ i →
    Ev (fun k => impl_LockFail.l0 k a fs (fs.length : Int) (i : Int) t w l acc u) (if ((acc ++ near w (fs.drop i) a).length : Int) + 1 ≥ t then ([], wrap64 (a + l), true) else (acc ++ near w (fs.drop i) a ++ [a], u, true)) := by
  refine down _ (fun acc ha => ?_) (fun i hi ih acc ha => ?_)
  · refine Ev.step (fun k => by rw [impl_LockFail.l0]) ?_
    simp only [Int.lt_irrefl, if_false, show acc.length < 17592186044416 by omega, if_true, Option.bind_some]
    rw [List.drop_length, show near w [] a = [] from rfl, List.append_nil]
    have hq : ((acc ++ [a]).length : Int) = (acc.length : Int) + 1 := by simp
    simp only [hq]
    by_cases hc : (acc.length : Int) + 1 ≥ t
    · simp only [if_pos hc, if_pos (show (acc.length : Int) + 1 = t by omega)]
      exact Ev.now _
    · simp only [hc, show ¬ (acc.length : Int) + 1 = t by omega, if_false]
      exact Ev.now _
  · refine Ev.step (fun k => by rw [impl_LockFail.l0]) ?_
    simp only [show (i : Int) < (fs.length : Int) by omega, Int.natCast_nonneg, if_true, wsucc (show i < 9223372036854775807 by omega), rd_get hi, show acc.length < 17592186044416 by omega]
    rw [near_step w fs a hi]
    by_cases hc : wrap64 (a - fs[i]) ≤ w
    · simp only [hc, if_true]
      refine evr (ih (acc ++ [fs[i]]) (by simp only [List.length_append, List.length_singleton]; omega)) ?_
      rw [List.append_assoc]
      rfl
    · simp only [hc, if_false]
      exact ih acc (by omega)
theorem last_cast {n : Nat} (h : 0 < n) (hn : n ≤ 10) : wrap64 ((n : Int) - 1) = ((n - 1 : Nat) : Int) := by
  rw [w64 (by omega) (by omega)]
  omega
theorem spec_LockFail (t w l : Int) (fs : List Int) (u a : Int) (hl : fs.length ≤ 1125899906842) : Ev (fun k => spec_LockFail.f k t w l fs u a) (fail t w l fs u a) := by
  unfold spec_LockFail.f fail
  refine Ev.bind (spec_LockOk t w l fs u (by omega)) ?_
  by_cases h : lockOk t w l fs u = true
  · have h10 : fs.length ≤ 10 := by have := lockOk_short h; omega
    have no : Ev (fun k => spec_LockFail.j0 k a (fs.length : Int) true t w l fs u) (fs, u, false) := by
      refine Ev.step (fun k => by rw [spec_LockFail.j0]) ?_
      simp only [if_true, l21Copy_eq fs u hl, Option.bind_some]
      exact Ev.now _
    have yes : Ev (fun k => spec_LockFail.j0 k a (fs.length : Int) false t w l fs u) (failed t w l fs u a) := by
      refine Ev.step (fun k => by rw [spec_LockFail.j0]) ?_
      simp only [reduceCtorEq, if_false]
      exact evr (spec_failed t w l fs u a h10 0 (by omega) [] (by simp)) rfl
    simp only [h, if_true, spec_LockedAt.f, Option.bind_some, decide_eq_true_eq, l1In_eq]
    by_cases ha : a < u
    · simp only [ha, if_true]
      exact no
    · simp only [ha, if_false]
      unfold timely
      by_cases hb : 0 ≤ a ∧ a ≤ 100000
      · simp only [hb, and_self, if_true, decide_true, Bool.true_and]
        by_cases h0 : 0 < fs.length
        · simp only [show (fs.length : Int) > 0 by omega, if_true, last_cast h0 h10, Int.natCast_nonneg, show ((fs.length - 1 : Nat) : Int) < (fs.length : Int) by omega, h0, decide_true, Bool.true_and]
          by_cases hc : a < rd fs ((fs.length - 1 : Nat) : Int)
          · simp only [hc, decide_true, Bool.not_true, reduceCtorEq, if_false]
            exact no
          · simp only [hc, decide_false, Bool.not_false, if_true]
            exact yes
        · simp only [show ¬ (fs.length : Int) > 0 by omega, if_false, h0, decide_false, Bool.false_and, Bool.not_false, if_true]
          exact yes
      · simp only [hb, if_false, decide_false, Bool.false_and, reduceCtorEq]
        exact no
  · simp only [h, if_false]
    exact Ev.now _
theorem impl_LockFail (t w l : Int) (fs : List Int) (u a : Int) (hl : fs.length ≤ 1125899906842) : Ev (fun k => impl_LockFail.f k t w l fs u a) (fail t w l fs u a) := by
  unfold impl_LockFail.f fail
  refine Ev.bind (impl_LockOk t w l fs u (by omega)) ?_
  by_cases h : lockOk t w l fs u = true
  · have h10 : fs.length ≤ 10 := by have := lockOk_short h; omega
    have no : Ev (fun k => impl_LockFail.j0 k a true t w l fs u) (fs, u, false) := by
      refine Ev.step (fun k => by rw [impl_LockFail.j0]) ?_
      simp only [if_true, copyLock_eq fs u hl, Option.bind_some]
      exact Ev.now _
    have yes : Ev (fun k => impl_LockFail.j0 k a false t w l fs u) (failed t w l fs u a) := by
      refine Ev.step (fun k => by rw [impl_LockFail.j0]) ?_
      simp only [reduceCtorEq, if_false]
      exact evr (impl_failed t w l fs u a h10 (lockOk_short h).1 0 (by omega) [] (by simp)) rfl
    simp only [h, if_true, impl_LockedAt.f, Option.bind_some, decide_eq_true_eq, isTime_eq]
    by_cases ha : a < u
    · simp only [ha, if_true]
      exact no
    · simp only [ha, if_false]
      unfold timely
      by_cases hb : 0 ≤ a ∧ a ≤ 100000
      · simp only [hb, and_self, if_true, decide_true, Bool.true_and]
        by_cases h0 : 0 < fs.length
        · simp only [show (fs.length : Int) > 0 by omega, if_true, last_cast h0 h10, Int.natCast_nonneg, show ((fs.length - 1 : Nat) : Int) < (fs.length : Int) by omega, h0, decide_true, Bool.true_and]
          by_cases hc : a < rd fs ((fs.length - 1 : Nat) : Int)
          · simp only [hc, decide_true, Bool.not_true, reduceCtorEq, if_false]
            exact no
          · simp only [hc, decide_false, Bool.not_false, if_true]
            exact yes
        · simp only [show ¬ (fs.length : Int) > 0 by omega, if_false, h0, decide_false, Bool.false_and, Bool.not_false, if_true]
          exact yes
      · simp only [hb, if_false, decide_false, Bool.false_and, reduceCtorEq]
        exact no
  · simp only [h, if_false]
    exact Ev.now _
end Go.Proofs.Ytfkecldlhngjhaa.Locks

/- A lock that is right stays right. -/

set_option linter.unusedSimpArgs false
namespace Go.Proofs.Ytfkecldlhngjhaa.Locks
open Go.RowKit Go.Proofs.YtfkecldlhngjhaaW.PrintWords Go.Proofs.YtfkecldlhngjhaaW.PrintMore Go.Proofs.Ytfkecldlhngjhaa.K Go.Proofs.Ytfkecldlhngjhaa.XA Go.Proofs.Ytfkecldlhngjhaa.Clocks

/-- Tries in their order, at times that are right. -/
def Rising (fs : List Int) : Prop := (∀ x ∈ fs, 0 ≤ x ∧ x ≤ 100000) ∧ fs.Pairwise (· ≤ ·)
theorem rising_all {fs : List Int} (h : Rising fs) : allFrom (failAt fs) fs.length 0 = true := by
  rw [allFrom_iff]
  intro j _ hj
  have h1 := h.1 fs[j] (List.getElem_mem hj)
  unfold failAt
  rw [rd_get hj]
  by_cases h0 : 0 < j
  · rw [rd_get (show j - 1 < fs.length by omega)]
    have h2 := List.pairwise_iff_getElem.1 h.2 (j - 1) j (by omega) hj (by omega)
    simp [h1, h0]
    omega
  · simp [h1, h0]
theorem all_rising {fs : List Int} (h : allFrom (failAt fs) fs.length 0 = true) : Rising fs := by
  rw [allFrom_iff] at h
  have b : ∀ j, (hj : j < fs.length) → 0 ≤ fs[j] ∧ fs[j] ≤ 100000 := fun j hj => by
    have := h j (by omega) hj
    unfold failAt at this
    rw [rd_get hj, Bool.and_eq_true, decide_eq_true_eq] at this
    exact this.1
  have s : ∀ j, (hj : j + 1 < fs.length) → fs[j] ≤ fs[j + 1] := fun j hj => by
    have := h (j + 1) (by omega) hj
    unfold failAt at this
    rw [rd_get hj, Nat.add_sub_cancel, rd_get (show j < fs.length by omega), Bool.and_eq_true] at this
    have h2 := this.2
    simp at h2
    exact h2
  refine ⟨fun x hx => ?_, List.pairwise_iff_getElem.2 (fun i j hi hj hij => ?_)⟩
  · obtain ⟨j, hj, rfl⟩ := List.getElem_of_mem hx
    exact b j hj
  · obtain ⟨d, rfl⟩ : ∃ d, j = i + 1 + d := ⟨j - (i + 1), by omega⟩
    clear hij
    induction d with
    | zero => exact s i hj
    | succ d ih => exact Int.le_trans (ih (by omega)) (s (i + 1 + d) hj)
theorem lockOk_iff (t w l : Int) (fs : List Int) (u : Int) : lockOk t w l fs u = true ↔ Rising fs ∧ ruleOk t w l = true ∧ (fs.length : Int) < t ∧ 0 ≤ u ∧ u ≤ 101000 := by
  unfold lockOk
  simp only [Bool.and_eq_true, decide_eq_true_eq]
  exact ⟨fun h => ⟨all_rising h.1.1, h.1.2, h.2.1, h.2.2⟩, fun h => ⟨⟨rising_all h.1, h.2.1⟩, h.2.2.1, h.2.2.2⟩⟩
theorem rising_nil : Rising [] := ⟨fun x hx => by simp at hx, List.Pairwise.nil⟩
theorem rising_near {fs : List Int} (h : Rising fs) (w a : Int) : Rising (near w fs a) :=
  ⟨fun x hx => h.1 x (List.mem_filter.1 hx).1, h.2.filter _⟩
theorem timely_last {fs : List Int} {a : Int} (h : Rising fs) (ht : timely fs a = true) : (0 ≤ a ∧ a ≤ 100000) ∧ ∀ x ∈ fs, x ≤ a := by
  unfold timely at ht
  rw [Bool.and_eq_true, decide_eq_true_eq] at ht
  refine ⟨ht.1, fun x hx => ?_⟩
  obtain ⟨j, hj, rfl⟩ := List.getElem_of_mem hx
  have h2 := ht.2
  rw [rd_get (show fs.length - 1 < fs.length by omega)] at h2
  simp [show 0 < fs.length by omega] at h2
  by_cases e : j = fs.length - 1
  · subst e
    exact h2
  · exact Int.le_trans (List.pairwise_iff_getElem.1 h.2 j (fs.length - 1) hj (by omega) (by omega)) h2
theorem timely_of {fs : List Int} {a : Int} (h0 : 0 ≤ a ∧ a ≤ 100000) (h : ∀ x ∈ fs, x ≤ a) : timely fs a = true := by
  unfold timely
  rw [Bool.and_eq_true, decide_eq_true_eq]
  refine ⟨h0, ?_⟩
  by_cases hl : 0 < fs.length
  · rw [rd_get (show fs.length - 1 < fs.length by omega)]
    have := h _ (List.getElem_mem (show fs.length - 1 < fs.length by omega))
    simp [hl]
    exact this
  · simp [hl]
theorem rising_snoc {fs : List Int} {a : Int} (h : Rising fs) (h0 : 0 ≤ a ∧ a ≤ 100000) (hl : ∀ x ∈ fs, x ≤ a) : Rising (fs ++ [a]) := by
  refine ⟨fun x hx => ?_, List.pairwise_append.2 ⟨h.2, List.pairwise_singleton _ _, fun x hx y hy => ?_⟩⟩
  · rcases List.mem_append.1 hx with hx | hx
    · exact h.1 x hx
    · rw [List.mem_singleton.1 hx]
      exact h0
  · rw [List.mem_singleton.1 hy]
    exact hl x hx
theorem fail_ok {t w l : Int} {fs : List Int} {u : Int} (h : lockOk t w l fs u = true) (a : Int) : lockOk t w l (fail t w l fs u a).1 (fail t w l fs u a).2.1 = true := by
  have h' := (lockOk_iff _ _ _ _ _).1 h
  unfold fail
  rw [if_pos h]
  by_cases ha : a < u
  · rw [if_pos ha]
    exact h
  · rw [if_neg ha]
    by_cases ht : timely fs a = true
    · rw [if_pos ht]
      have hl := timely_last h'.1 ht
      have hr := h'.2.1
      unfold ruleOk at hr
      simp only [Bool.and_eq_true, decide_eq_true_eq] at hr
      unfold failed
      by_cases hc : ((near w fs a).length : Int) + 1 ≥ t
      · rw [if_pos hc]
        refine (lockOk_iff _ _ _ _ _).2 ⟨rising_nil, h'.2.1, ?_, ?_⟩
        · simp only [List.length_nil]
          omega
        · show 0 ≤ wrap64 (a + l) ∧ wrap64 (a + l) ≤ 101000
          rw [w64 (by omega) (by omega)]
          omega
      · rw [if_neg hc]
        refine (lockOk_iff _ _ _ _ _).2 ⟨rising_snoc (rising_near h'.1 w a) hl.1 (fun x hx => hl.2 x (List.mem_filter.1 hx).1), h'.2.1, ?_, h'.2.2.2⟩
        simp only [List.length_append, List.length_singleton]
        omega
    · rw [if_neg ht]
      exact h
theorem near_near {w a b : Int} (fs : List Int) (hab : a ≤ b) (h0 : 0 ≤ a) (hb : b ≤ 1000000) (hf : ∀ x ∈ fs, 0 ≤ x ∧ x ≤ 1000000) : near w (near w fs a) b = near w fs b := by
  unfold near
  rw [List.filter_filter]
  refine List.filter_congr (fun x hx => ?_)
  have := hf x hx
  rw [w64 (n := b - x) (by omega) (by omega), w64 (n := a - x) (by omega) (by omega)]
  by_cases h : b - x ≤ w
  · simp [h]
    omega
  · simp [h]
theorem near_append (w : Int) (xs ys : List Int) (a : Int) : near w (xs ++ ys) a = near w xs a ++ near w ys a := List.filter_append _ _
theorem near_self {w : Int} (hw : 0 ≤ w) (a : Int) : near w [a] a = [a] := by
  unfold near
  rw [List.filter_cons, Int.sub_self, w64 (by omega) (by omega)]
  simp [hw]
end Go.Proofs.Ytfkecldlhngjhaa.Locks

/- The bits of small numbers. -/
namespace Go.Proofs.Ytfkecldlhngjhaa.K
open Go.RowKit Go.Proofs.YtfkecldlhngjhaaW.PrintWords

theorem i64_small (n : Nat) (h : n < 9223372036854775808) : IntKind.i64.wrap (n : Int) = (n : Int) := by
  simp [IntKind.wrap, IntKind.bits, IntKind.signed]
  omega
theorem ofInt_nat (a : Nat) (ha : a < 9223372036854775808) : (BitVec.ofInt 64 (a : Int)).toNat = a := by
  rw [BitVec.ofInt_natCast, BitVec.toNat_ofNat]
  exact Nat.mod_eq_of_lt (by omega)
theorem bits_and_nat (a b : Nat) (ha : a < 9223372036854775808) (hb : b < 9223372036854775808) : Go.bits .and .i64 (a : Int) (b : Int) = ((a &&& b : Nat) : Int) := by
  have hx : a &&& b ≤ a := Nat.and_le_left
  show IntKind.i64.wrap ((BitVec.ofInt 64 (a : Int) &&& BitVec.ofInt 64 (b : Int)).toNat : Int) = _
  rw [BitVec.toNat_and, ofInt_nat a ha, ofInt_nat b hb, i64_small _ (by omega)]
/-- What '& m' leaves, of any number. -/
theorem bits_and_le (x : Int) (m : Nat) (hm : m < 9223372036854775808) : 0 ≤ Go.bits .and .i64 x (m : Int) ∧ Go.bits .and .i64 x (m : Int) ≤ (m : Int) := by
  have hx : (BitVec.ofInt 64 x).toNat &&& m ≤ m := Nat.and_le_right
  have h : Go.bits .and .i64 x (m : Int) = (((BitVec.ofInt 64 x).toNat &&& m : Nat) : Int) := by
    show IntKind.i64.wrap ((BitVec.ofInt 64 x &&& BitVec.ofInt 64 (m : Int)).toNat : Int) = _
    rw [BitVec.toNat_and, ofInt_nat m hm, i64_small _ (by omega)]
  rw [h]
  omega
end Go.Proofs.Ytfkecldlhngjhaa.K

/- What the reference draws from a source: always something, within bounds. -/
set_option linter.unusedSimpArgs false
namespace Go.Proofs.Ytfkecldlhngjhaa.Draw
open Go.RowKit Go.Proofs.YtfkecldlhngjhaaW.PrintWords Go.Proofs.YtfkecldlhngjhaaW.PrintMore Go.Proofs.Ytfkecldlhngjhaa.K Go.Proofs.Ytfkecldlhngjhaa.XA

theorem byte_some (xs : List Int) (i s : Int) (hi : 0 ≤ i) (hl : xs.length ≤ 1125899906842624) : ∃ b j t, spec_l1Byte.f xs i s = some (b, j, t) ∧ 0 ≤ b ∧ b ≤ 255 ∧ 0 ≤ j := by
  unfold spec_l1Byte.f
  by_cases h : i < (xs.length : Int)
  · simp only [h, if_true, hi]
    refine ⟨_, _, _, rfl, (bits_and_le _ 255 (by omega)).1, (bits_and_le _ 255 (by omega)).2, ?_⟩
    rw [wadd1 (by omega) (by omega)]
    omega
  · simp only [h, if_false]
    exact ⟨_, _, _, rfl, (bits_and_le _ 255 (by omega)).1, (bits_and_le _ 255 (by omega)).2, hi⟩
theorem below_some (xs : List Int) (i s n : Int) (hi : 0 ≤ i) (hl : xs.length ≤ 1125899906842624) (hn : 0 < n) (hn2 : n ≤ 4294967296) : ∃ b j t, spec_l1Below.f xs i s n = some (b, j, t) ∧ 0 ≤ b ∧ b < n ∧ 0 ≤ j := by
  unfold spec_l1Below.f
  simp only [show ¬ n ≤ 0 by omega, show ¬ n = 0 by omega, if_false]
  by_cases h : n ≤ 256
  · obtain ⟨b, j, t, e, h0, h1, hj⟩ := byte_some xs i s hi hl
    simp only [h, if_true, e, Option.bind_some]
    refine ⟨_, _, _, rfl, ?_, ?_, hj⟩
    · exact Int.tmod_nonneg _ h0
    · rw [Int.tmod_eq_emod_of_nonneg h0]
      exact Int.emod_lt_of_pos _ hn
  · obtain ⟨a, j1, t1, e1, a0, a1, g1⟩ := byte_some xs i s hi hl
    obtain ⟨b, j2, t2, e2, b0, b1, g2⟩ := byte_some xs j1 t1 g1 hl
    obtain ⟨c, j3, t3, e3, c0, c1, g3⟩ := byte_some xs j2 t2 g2 hl
    obtain ⟨d, j4, t4, e4, d0, d1, g4⟩ := byte_some xs j3 t3 g3 hl
    simp only [h, if_false, e1, e2, e3, e4, Option.bind_some]
    have hv : wrap64 ((wrap64 ((wrap64 ((wrap64 (a * 16777216)) + (wrap64 (b * 65536)))) + (wrap64 (c * 256)))) + d) = a * 16777216 + b * 65536 + c * 256 + d := by
      rw [w64 (n := a * 16777216) (by omega) (by omega), w64 (n := b * 65536) (by omega) (by omega), w64 (n := c * 256) (by omega) (by omega), w64 (n := a * 16777216 + b * 65536) (by omega) (by omega), w64 (n := a * 16777216 + b * 65536 + c * 256) (by omega) (by omega), w64 (by omega) (by omega)]
    rw [hv]
    refine ⟨_, _, _, rfl, ?_, ?_, g4⟩
    · exact Int.tmod_nonneg _ (by omega)
    · rw [Int.tmod_eq_emod_of_nonneg (by omega)]
      exact Int.emod_lt_of_pos _ hn
theorem once_some (xs : List Int) (i s n : Int) (hi : 0 ≤ i) (hl : xs.length ≤ 1125899906842624) (hn : 0 < n) (hn2 : n ≤ 4294967296) : ∃ b j t, spec_l1Once.f xs i s n = some (b, j, t) ∧ 0 ≤ j := by
  obtain ⟨b, j, t, e, _, _, h⟩ := below_some xs i s n hi hl hn hn2
  unfold spec_l1Once.f
  rw [e]
  exact ⟨_, _, _, rfl, h⟩
theorem pickInt_some (xs : List Int) (i s : Int) (l : List Int) (hi : 0 ≤ i) (hl : xs.length ≤ 1125899906842624) (hn : 0 < l.length) (hn2 : l.length ≤ 4294967296) : ∃ b j t, spec_l1PickInt.f xs i s l = some (b, j, t) ∧ b ∈ l ∧ 0 ≤ j := by
  obtain ⟨b, j, t, e, h0, h1, h⟩ := below_some xs i s (l.length : Int) hi hl (by omega) (by omega)
  unfold spec_l1PickInt.f
  rw [e]
  simp only [Option.bind_some, h0, h1, if_true]
  refine ⟨_, _, _, rfl, ?_, h⟩
  obtain ⟨n, rfl⟩ := Int.eq_ofNat_of_zero_le h0
  have hb : n < l.length := by omega
  show rd l (n : Int) ∈ l
  rw [rd_get hb]
  exact List.getElem_mem hb
theorem new_some (xs : List Int) (hl : xs.length ≤ 1125899906842624) : ∃ s, Ev (fun k => spec_l1New.f k xs) (xs, 0, s) := by
  unfold spec_l1New.f
  have key : ∀ i, i ≤ xs.length → ∀ s, ∃ t, Ev (fun k => spec_l1New.l0 k xs s (i : Int)) (xs, 0, t) := by
    refine down _ (fun s => ⟨s, ?_⟩) (fun i hi ih s => ?_)
    · refine Ev.step (fun k => by rw [spec_l1New.l0]) ?_
      simp only [Int.lt_irrefl, if_false]
      exact Ev.now _
    · by_cases h : (i : Int) < 4000
      · obtain ⟨t, ht⟩ := ih (Go.bits .and .i64 (wrap64 ((wrap64 ((wrap64 (s * 131)) + (wrap64 (rd xs i)))) + 7)) 1073741823)
        refine ⟨t, ?_⟩
        refine Ev.step (fun k => by rw [spec_l1New.l0]) ?_
        simp only [show (i : Int) < (xs.length : Int) by omega, h, Int.natCast_nonneg, if_true, wsucc (show i < 9223372036854775807 by omega)]
        exact ht
      · refine ⟨s, ?_⟩
        refine Ev.step (fun k => by rw [spec_l1New.l0]) ?_
        simp only [show (i : Int) < (xs.length : Int) by omega, h, if_true, if_false]
        exact Ev.now _
  exact key 0 (by omega) _
end Go.Proofs.Ytfkecldlhngjhaa.Draw

/- What the reference draws of locks: always something. -/
set_option linter.unusedSimpArgs false
namespace Go.Proofs.Ytfkecldlhngjhaa.Locks
open Go.RowKit Go.Proofs.YtfkecldlhngjhaaW.PrintWords Go.Proofs.YtfkecldlhngjhaaW.PrintMore Go.Proofs.Ytfkecldlhngjhaa.K Go.Proofs.Ytfkecldlhngjhaa.XA Go.Proofs.Ytfkecldlhngjhaa.Clocks Go.Proofs.Ytfkecldlhngjhaa.Draw

theorem rules_some (xs : List Int) (i s : Int) (hi : 0 ≤ i) (hl : xs.length ≤ 1125899906842624) : ∃ t w l j z, spec_l21Rules.f xs i s = some (t, w, l, j, z) ∧ 0 ≤ j := by
  obtain ⟨a, i1, s1, e1, _, _, g1⟩ := below_some xs i s 4 hi hl (by omega) (by omega)
  obtain ⟨b, i2, s2, e2, _, _, g2⟩ := below_some xs i1 s1 20 g1 hl (by omega) (by omega)
  obtain ⟨c, i3, s3, e3, _, _, g3⟩ := below_some xs i2 s2 20 g2 hl (by omega) (by omega)
  obtain ⟨d, i4, s4, e4, g4⟩ := once_some xs i3 s3 12 g3 hl (by omega) (by omega)
  obtain ⟨p, i5, s5, e5, _, g5⟩ := pickInt_some xs i4 s4 [0, 10, 11] g4 hl (by simp) (by simp)
  unfold spec_l21Rules.f
  simp only [e1, e2, e3, e4, Option.bind_some]
  cases d
  · simp only [reduceCtorEq, if_false]
    exact ⟨_, _, _, _, _, rfl, g4⟩
  · simp only [if_true, e5, Option.bind_some]
    exact ⟨_, _, _, _, _, rfl, g5⟩
theorem lock_loop (xs : List Int) (hl : xs.length ≤ 1125899906842624) (t w l : Int) : ∀ (n : Nat), n ≤ 8 → ∀ (m i s : Int) (fs : List Int) (u : Int), 0 ≤ i → fs.length + n ≤ 100 →
    ∃ fs' u' i' s', Ev (fun k => spec_l21Lock.l0 k m (n : Int) xs i s t w l fs u) (fs', u', i', s') ∧ fs'.length ≤ 200 ∧ 0 ≤ i' := by
  intro n
  induction n with
  | zero =>
    intro _ m i s fs u hi hf
    obtain ⟨d, i1, s1, e1, g1⟩ := once_some xs i s 10 hi hl (by omega) (by omega)
    obtain ⟨b, i2, s2, e2, b0, b1, g2⟩ := below_some xs i1 s1 3 g1 hl (by omega) (by omega)
    obtain ⟨c, i3, s3, e3, _, _, g3⟩ := below_some xs i2 s2 9 g2 hl (by omega) (by omega)
    obtain ⟨p, i4, s4, e4, _, g4⟩ := pickInt_some xs i2 s2 [-1, 0, 101000, 101001] g2 hl (by simp) (by simp)
    have key : ∃ r : List Int × Int × Int × Int, (∀ k, spec_l21Lock.l0 (k + 1) m 0 xs i s t w l fs u = some r) ∧ r.1.length ≤ 200 ∧ 0 ≤ r.2.2.1 := by
      cases d
      · refine ⟨(fs, u, i1, s1), fun k => ?_, (by show fs.length ≤ 200; omega), g1⟩
        rw [spec_l21Lock.l0]
        simp only [gt_iff_lt, Int.lt_irrefl, if_false, e1, Option.bind_some, reduceCtorEq]
      · by_cases h0 : b = 0
        · refine ⟨(fs ++ [wrap64 (c - 1)], u, i3, s3), fun k => ?_, (by simp only [List.length_append, List.length_singleton]; omega), g3⟩
          rw [spec_l21Lock.l0]
          simp only [gt_iff_lt, Int.lt_irrefl, if_false, e1, e2, e3, Option.bind_some, if_true, h0, show fs.length < 17592186044416 by omega]
        · by_cases h1 : b = 1
          · refine ⟨(fs, p, i4, s4), fun k => ?_, (by show fs.length ≤ 200; omega), g4⟩
            rw [spec_l21Lock.l0]
            simp only [gt_iff_lt, Int.lt_irrefl, if_false, e1, e2, e4, Option.bind_some, if_true, h0, h1, show ¬ (1 : Int) = 0 by omega]
          · refine ⟨(fs ++ [5, 5, 5, 5], u, i2, s2), fun k => ?_, (by simp only [List.length_append, List.length_cons, List.length_nil]; omega), g2⟩
            rw [spec_l21Lock.l0]
            simp only [gt_iff_lt, Int.lt_irrefl, if_false, e1, e2, Option.bind_some, if_true, h0, h1, show fs.length + ([5, 5, 5, 5] : List Int).length < 17592186044416 by simp only [List.length_cons, List.length_nil]; omega]
    obtain ⟨r, hr, h1, h2⟩ := key
    refine ⟨r.1, r.2.1, r.2.2.1, r.2.2.2, ?_, h1, h2⟩
    refine Ev.step (fun k => hr k) ?_
    exact Ev.now _
  | succ n ih =>
    intro hn m i s fs u hi hf
    obtain ⟨b, i1, s1, e1, _, _, g1⟩ := below_some xs i s 8 hi hl (by omega) (by omega)
    have hfl := fail_len t w l fs u (wrap64 (m + b))
    have hw : wrap64 (((n + 1 : Nat) : Int) - 1) = (n : Int) := by
      rw [w64 (by omega) (by omega)]
      omega
    by_cases hq : (fail t w l fs u (wrap64 (m + b))).2.2 = true
    · obtain ⟨fs', u', i', s', he, h1, h2⟩ := ih (by omega) (wrap64 (m + b)) i1 s1 (fail t w l fs u (wrap64 (m + b))).1 (fail t w l fs u (wrap64 (m + b))).2.1 g1 (by omega)
      refine ⟨fs', u', i', s', ?_, h1, h2⟩
      refine Ev.step (fun k => by rw [spec_l21Lock.l0]) ?_
      simp only [show ((n + 1 : Nat) : Int) > 0 by omega, if_true, e1, Option.bind_some, hw]
      refine Ev.bind (spec_LockFail t w l fs u (wrap64 (m + b)) (by omega)) ?_
      simp only [hq, if_true]
      exact he
    · obtain ⟨fs', u', i', s', he, h1, h2⟩ := ih (by omega) (wrap64 (m + b)) i1 s1 fs u g1 (by omega)
      refine ⟨fs', u', i', s', ?_, h1, h2⟩
      refine Ev.step (fun k => by rw [spec_l21Lock.l0]) ?_
      simp only [show ((n + 1 : Nat) : Int) > 0 by omega, if_true, e1, Option.bind_some, hw]
      refine Ev.bind (spec_LockFail t w l fs u (wrap64 (m + b)) (by omega)) ?_
      simp only [hq, if_false]
      exact he
theorem lock_some (xs : List Int) (i s : Int) (hi : 0 ≤ i) (hl : xs.length ≤ 1125899906842624) (t w l : Int) : ∃ fs u j z, Ev (fun k => spec_l21Lock.f k xs i s t w l) (fs, u, j, z) ∧ fs.length ≤ 200 ∧ 0 ≤ j := by
  obtain ⟨b, i1, s1, e1, b0, b1, g1⟩ := below_some xs i s 8 hi hl (by omega) (by omega)
  obtain ⟨n, rfl⟩ := Int.eq_ofNat_of_zero_le b0
  obtain ⟨fs, u, j, z, he, h1, h2⟩ := lock_loop xs hl t w l n (by omega) 0 i1 s1 [] 0 g1 (by simp only [List.length_nil]; omega)
  refine ⟨fs, u, j, z, ?_, h1, h2⟩
  unfold spec_l21Lock.f
  simp only [e1, Option.bind_some]
  exact he
theorem drawFail_some (xs : List Int) (hl : xs.length ≤ 1125899906842624) : ∃ t w l fs u a, Ev (fun k => spec_DrawLockFail.f k xs) (t, w, l, fs, u, a) ∧ fs.length ≤ 200 := by
  obtain ⟨s0, e0⟩ := new_some xs hl
  obtain ⟨t, w, l, i1, s1, e1, g1⟩ := rules_some xs 0 s0 (by omega) hl
  obtain ⟨fs, u, i2, s2, e2, hf, g2⟩ := lock_some xs i1 s1 g1 hl t w l
  obtain ⟨b, i3, s3, e3, _, _, g3⟩ := below_some xs i2 s2 70 g2 hl (by omega) (by omega)
  obtain ⟨p, i4, s4, e4, _, g4⟩ := pickInt_some xs i3 s3 [b, 40, 60, -1, 100000, 100001] g3 hl (by simp) (by simp)
  refine ⟨t, w, l, fs, u, p, ?_, hf⟩
  unfold spec_DrawLockFail.f
  refine Ev.bind e0 ?_
  simp only [e1, Option.bind_some]
  refine Ev.bind e2 ?_
  simp only [e3, e4, Option.bind_some]
  exact Ev.now _
theorem drawGood_some (xs : List Int) (hl : xs.length ≤ 1125899906842624) : ∃ t w l fs u a, Ev (fun k => spec_DrawLockGood.f k xs) (t, w, l, fs, u, a) ∧ fs.length ≤ 200 := by
  obtain ⟨s0, e0⟩ := new_some xs hl
  obtain ⟨t, w, l, i1, s1, e1, g1⟩ := rules_some xs 0 s0 (by omega) hl
  obtain ⟨fs, u, i2, s2, e2, hf, g2⟩ := lock_some xs i1 s1 g1 hl t w l
  obtain ⟨b, i3, s3, e3, _, _, g3⟩ := below_some xs i2 s2 70 g2 hl (by omega) (by omega)
  refine ⟨t, w, l, fs, u, b, ?_, hf⟩
  unfold spec_DrawLockGood.f
  refine Ev.bind e0 ?_
  simp only [e1, Option.bind_some]
  refine Ev.bind e2 ?_
  simp only [e3, Option.bind_some]
  exact Ev.now _
theorem sameInts (a : List Int) (hb : a.length < 9223372036854775807) : Ev (fun k => laws_sameInts.f k a a) true := by
  unfold laws_sameInts.f
  simp only [if_true]
  have key : ∀ i, i ≤ a.length → Ev (fun k => laws_sameInts.l0 k a a (i : Int)) true := by
    refine down _ ?_ (fun i hi ih => ?_)
    · refine Ev.step (fun k => by rw [laws_sameInts.l0]) ?_
      simp only [Int.lt_irrefl, if_false]
      exact Ev.now _
    · refine Ev.step (fun k => by rw [laws_sameInts.l0]) ?_
      simp only [show (i : Int) < (a.length : Int) by omega, Int.natCast_nonneg, if_true, wsucc (show i < 9223372036854775807 by omega)]
      exact ih
  exact key 0 (by omega)
end Go.Proofs.Ytfkecldlhngjhaa.Locks

set_option linter.unusedSimpArgs false
namespace Go.Proofs.Ytfkecldlhngjhaa.Pure
open Go.RowKit Go.Proofs.Ytfkecldlhngjhaa.XA Go.Proofs.YtfkecldlhngjhaaW.PrintWords Go.Proofs.Ytfkecldlhngjhaa.K Go.Proofs.Ytfkecldlhngjhaa.Locks

theorem good_yes (t w l : Int) (fs : List Int) (u a : Int) (h : (good t w l fs u a).2.2 = true) : (good t w l fs u a).1 = [] := by
  unfold good at h ⊢
  by_cases h1 : lockOk t w l fs u = true
  · rw [if_pos h1] at h ⊢
    by_cases h2 : a < u
    · rw [if_pos h2] at h
      exact Bool.noConfusion h
    · rw [if_neg h2]
  · rw [if_neg h1]
theorem fail_no {t w l : Int} {fs : List Int} {u a : Int} (hok : lockOk t w l fs u = true) (h : ¬ (fail t w l fs u a).2.2 = true) : fail t w l fs u a = (fs, u, false) := by
  unfold fail at h ⊢
  rw [if_pos hok] at h ⊢
  by_cases h2 : a < u
  · rw [if_pos h2]
  · rw [if_neg h2] at h ⊢
    by_cases h3 : timely fs a = true
    · rw [if_pos h3] at h
      exact absurd (by unfold failed; split <;> rfl) h
    · rw [if_neg h3]
theorem FnLocks : laws_FnLocks.Pure := by
  intro xs hm h8 hw
  refine Ev.rounds (g := fun k => laws_FnLocks.f k xs) ?_
  unfold laws_FnLocks.f laws_big.f
  simp only [Option.bind_some, decide_eq_true_eq]
  by_cases hbig : (xs.length : Int) > 1048576
  · simp only [hbig, if_true]
    exact Ev.now _
  · simp only [hbig, if_false]
    obtain ⟨t, w, l, fs, u, a, e1, hf⟩ := drawFail_some xs (by omega)
    obtain ⟨t2, w2, l2, fs2, u2, a2, e2, hf2⟩ := drawGood_some xs (by omega)
    have hfl := fail_len t w l fs u a
    refine Ev.bind e1 ?_
    refine Ev.bind (impl_LockFail t w l fs u a (by omega)) ?_
    refine Ev.bind (spec_LockFail t w l fs u a (by omega)) ?_
    simp only [bne_self_eq_false, reduceCtorEq, if_false]
    refine Ev.bind (sameInts _ (by omega)) ?_
    simp only [if_true]
    refine Ev.step (fun k => by rw [laws_FnLocks.j0]) ?_
    simp only [reduceCtorEq, if_false]
    refine Ev.bind (spec_LockOk t w l fs u (by omega)) ?_
    by_cases hok : lockOk t w l fs u = true
    · simp only [hok, if_true]
      refine Ev.bind e2 ?_
      refine Ev.bind (impl_LockGood t2 w2 l2 fs2 u2 a2 (by omega)) ?_
      refine Ev.bind (spec_LockGood t2 w2 l2 fs2 u2 a2 (by omega)) ?_
      refine Ev.bind (spec_LockOk t w l _ _ (by omega)) ?_
      simp only [fail_ok hok a, if_true, beq_self_eq_true]
      have tail : Ev (fun _ => if (good t2 w2 l2 fs2 u2 a2).2.2 = true then some (((good t2 w2 l2 fs2 u2 a2).1.length : Int) == 0) else some true) true := by
        by_cases hg : (good t2 w2 l2 fs2 u2 a2).2.2 = true
        · simp only [hg, if_true, good_yes _ _ _ _ _ _ hg]
          exact Ev.now _
        · simp only [hg, if_false]
          exact Ev.now _
      by_cases hq : (fail t w l fs u a).2.2 = true
      · simp only [hq, if_true]
        exact tail
      · simp only [hq, if_false]
        rw [fail_no hok hq]
        refine Ev.bind (sameInts fs (by omega)) ?_
        simp only [if_true]
        exact tail
    · simp only [hok, if_false]
      have hz : fail t w l fs u a = ([], 0, false) := by
        unfold fail
        rw [if_neg hok]
      rw [hz]
      simp only [reduceCtorEq, if_false]
      exact Ev.now _
end Go.Proofs.Ytfkecldlhngjhaa.Pure

namespace Go.Proofs.Ytfkecldlhngjhaa.fnLocks
open Go.ChangeShapes Go.WideShapes Go.ChangeAt Go.RowKit
open Go.ChangeMaps (open_string shut_string)
set_option linter.unusedVariables false
theorem own : ownKnob Try.prog.godebug = none := by kernel_rfl
theorem laidOut : laidOutB Try.prog = true := by kernel_rfl
def IsRow (k : IntKind) (w : World) (a : Option Addr) (len cap : Nat) (zs : List Int) : Prop :=
  (a = none ∧ len = 0 ∧ cap = 0 ∧ zs = []) ∨
  ∃ x, a = some x ∧ len ≤ cap ∧ cap ≤ maxLen ∧ zs.length = cap ∧ (∀ i, i < zs.length → w.cell? (x.add i) = some (.int k (zs.getD i 0))) ∧ ∀ n ∈ zs, (Lit.int k n).wf = true
set_option maxRecDepth 100000 in
theorem lifted (os : Os) (started : os.Started) (H : Type) (enc : TypeId × Value → H) :
    ReturnsInHanded {} Try.checked os 13 .any (Rows.fnLocksSpec.pre6 enc Try.prog Try.f13 Rows.fnLocksRow.domain false) (Rows.fnLocksSpec.post enc Try.prog Try.f13 false true false false) := by
  refine returnsInHanded_of_change_sized (C := Try.checked) own started (by kernel_rfl) Try.func13
    (ChangeSpec.witness6 (enc := enc) (C := Try.checked) false ⟨#[], #[.slice none 0 0], []⟩ 8 (by kernel_rfl) (by kernel_rfl) (by kernel_rfl) (by kernel_rfl)) ?_
  intro W base args ds gs before hval0 hW hcnd hsz0 _
  have hsz : (DataW.weightsEach Try.prog (Try.f13.params.toList ++ Rows.fnLocksSpec.plain.varTypes Try.prog) (ds ++ gs)).all (· ≤ reachBytes) = true := hsz0
  have hval : ∀ (j : Nat) t v, Try.f13.params[j]? = some t → args[j]? = some v → Value.okWide Try.prog W .any base t v := hval0
  have hW' := hW
  obtain ⟨p, q, hA0, hV, rfl, hfz, hnd⟩ := hW
  have hA : DataW.TrodAll enc Try.prog W 0 (fun _ => true) true Try.f13.params.toList args.toList ds p := hA0
  rw [Try.params13] at hA hval hsz
  obtain ⟨v0, vs0, d0, ds0, p0, q0, hargs, rfl, rfl, h0, r0⟩ := trodAll_cons hA
  obtain ⟨rfl, rfl, rfl⟩ := trodAll_nil r0
  obtain rfl : args = #[v0] := by cases args; simp_all
  obtain ⟨rfl, rfl⟩ := trodVars_none hV
  obtain ⟨a0, len0, cap0, rfl⟩ := okWide_slice Try.underlying36 (hval 0 36 v0 rfl rfl)
  have k0 := h0
  have lt0 : ∀ x ∈ p0, x.block < W.heap.size := by obtain ⟨m, hm⟩ := k0; exact DataW.trod_lt m _ _ _ hm
  obtain ⟨z0, w0⟩ : ∃ zs, IsRow .u8 W a0 len0 cap0 zs := by
    obtain ⟨fuel, hf⟩ := h0
    rcases open_ints Try.underlying36 Try.underlying5 (by kernel_rfl) hf with ⟨hcs, _⟩ | ⟨x, l, c, zs, hcs, _, hl, hm, hz, _, hcell, hwz⟩
    · simp [Value.cells] at hcs
      obtain ⟨rfl, rfl, rfl⟩ := hcs
      exact ⟨[], .inl ⟨rfl, rfl, rfl, rfl⟩⟩
    · simp [Value.cells] at hcs
      obtain ⟨rfl, rfl, rfl⟩ := hcs
      exact ⟨zs, .inr ⟨_, rfl, hl, hm, by simpa using hz, hcell, hwz⟩⟩
  have y0 : len0 * 1 ≤ 140737488351232 := Go.Proofs.YtfkecldlhngjhaaW.PrintWords.sized_ints hsz (j := 0) (t := 36) rfl rfl Try.underlying36 Try.underlying5 (by kernel_rfl) (by kernel_rfl) h0
  clear hA0 hval0 hsz0 hsz
  refine (XA.laws_FnLocks.walk Pure.FnLocks a0 len0 cap0 z0 W w0 y0).mono fun e W' ⟨he, bel⟩ => ?_
  subst he
  exact ⟨_, rfl, _, _, _, [], _, [], hW', trodAll_mk1 (shut_bool Try.underlying4 _), (trodAll_cons_mk (Below.trod laidOut (by kernel_rfl) (of_decide_eq_true (by kernel_rfl)) k0 bel lt0) trodAll_mk0), rfl, bel.frame _, fun h => by cases h⟩
theorem over : Rows.fnLocksRow.holds Try.pinned (OpenSpec.ofChange Rows.fnLocksSpec) :=
  OpenClaim.holds_of_wide 13 Try.f13 rfl rfl rfl rfl rfl rfl rfl ⟨rfl, rfl, rfl, rfl, rfl⟩ rfl rfl rfl rfl rfl (by kernel_rfl) Try.func13 (by kernel_rfl)
    (of_decide_eq_true (by kernel_rfl)) (by unfold Func.isWrapper; first | (rw [if_pos (by decide +kernel)]; kernel_rfl) | (rw [if_neg (by decide +kernel)]; exact ⟨rfl, rfl⟩))
    (fun os started H enc _ => lifted os started H enc)
theorem proved : Rows.FnLocksSaid := over
#print axioms proved
end Go.Proofs.Ytfkecldlhngjhaa.fnLocks
namespace Go.Proofs.Ytfkecldlhngjhaa
/-- The row, under a short name, for the claim. -/
theorem fnLocks_holds : Rows.FnLocksSaid := fnLocks.proved
end Go.Proofs.Ytfkecldlhngjhaa
