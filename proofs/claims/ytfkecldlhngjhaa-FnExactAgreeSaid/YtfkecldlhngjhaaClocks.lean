/- What the functions on clocks come to, in the program and in the reference alike. -/
import Derived.Test.YtfkecldlhngjhaaInts
import Derived.Test.YtfkecldlhngjhaaXAf15
import Derived.Test.YtfkecldlhngjhaaXAf17
import Derived.Test.YtfkecldlhngjhaaXAf24
import Derived.Test.YtfkecldlhngjhaaXAf25
import Derived.Test.YtfkecldlhngjhaaXAf51
import Derived.Test.YtfkecldlhngjhaaXAf53
import Derived.Test.YtfkecldlhngjhaaXAf54
import Derived.Test.YtfkecldlhngjhaaXAf56
import Derived.Test.YtfkecldlhngjhaaXAv1
set_option linter.unusedSimpArgs false
namespace Go.Proofs.Ytfkecldlhngjhaa.Clocks
open Go.RowKit Go.Proofs.YtfkecldlhngjhaaW.PrintWords Go.Proofs.YtfkecldlhngjhaaW.PrintMore Go.Proofs.Ytfkecldlhngjhaa.K Go.Proofs.Ytfkecldlhngjhaa.XA

theorem l1In_eq (a b c : Int) : spec_l1In.f a b c = some (decide (b ≤ a ∧ a ≤ c)) := by
  unfold spec_l1In.f
  by_cases h : a ≥ b
  · rw [if_pos h]
    simp [show b ≤ a from h]
  · rw [if_neg h]
    simp [show ¬ b ≤ a from h]
theorem within_eq (a b c : Int) : impl_within.f a b c = some (decide (b ≤ a ∧ a ≤ c)) := by
  unfold impl_within.f
  by_cases h : a ≥ b
  · rw [if_pos h]
    simp [show b ≤ a from h]
  · rw [if_neg h]
    simp [show ¬ b ≤ a from h]
theorem isTime_eq (a : Int) : impl_isTime.f a = some (decide (0 ≤ a ∧ a ≤ 100000)) := by
  unfold impl_isTime.f
  rw [within_eq]
  rfl

def okC (x : Int) : Bool := decide (-1000 ≤ x ∧ x ≤ 1000)
def clocksOk (l : List Int) : Bool := decide (l.length ≤ 8) && l.all okC
theorem clocksOk_len {l : List Int} (h : clocksOk l = true) : l.length ≤ 8 := by
  unfold clocksOk at h
  simp at h
  exact h.1
theorem clocksOk_get {l : List Int} (h : clocksOk l = true) {i : Nat} (hi : i < l.length) : -1000 ≤ l[i] ∧ l[i] ≤ 1000 := by
  unfold clocksOk at h
  simp only [Bool.and_eq_true, List.all_eq_true] at h
  have := h.2 _ (List.getElem_mem hi)
  unfold okC at this
  exact of_decide_eq_true this
theorem clocksOk_rd {l : List Int} (h : clocksOk l = true) {i : Int} (h0 : 0 ≤ i) (hi : i < l.length) : -1000 ≤ rd l i ∧ rd l i ≤ 1000 := by
  obtain ⟨n, rfl⟩ := Int.eq_ofNat_of_zero_le h0
  rw [rd_get (show n < l.length by omega)]
  exact clocksOk_get h _

theorem spec_ClocksOk (l : List Int) (hl : l.length ≤ 1125899906842624) : Ev (fun k => spec_ClocksOk.f k l) (clocksOk l) := by
  unfold spec_ClocksOk.f clocksOk
  by_cases h : (l.length : Int) > 8
  · simp only [h, if_true]
    exact evr (Ev.now _) (by simp [show ¬ l.length ≤ 8 by omega])
  · simp only [h, if_false, show l.length ≤ 8 by omega, decide_true, Bool.true_and]
    have key : ∀ i, i ≤ l.length → Ev (fun k => spec_ClocksOk.l0 k l (i : Int)) ((l.drop i).all okC) := by
      refine down _ ?_ (fun i hi ih => ?_)
      · refine Ev.step (fun k => by rw [spec_ClocksOk.l0]) ?_
        simp only [Int.lt_irrefl, if_false]
        exact evr (Ev.now _) (by simp)
      · refine Ev.step (fun k => by rw [spec_ClocksOk.l0]) ?_
        have h1 : (i : Int) < (l.length : Int) := by omega
        simp only [h1, Int.natCast_nonneg, if_true, l1In_eq, Option.bind_some, wsucc (show i < 9223372036854775807 by omega), rd_get hi]
        rw [List.drop_eq_getElem_cons hi, List.all_cons]
        by_cases h : -1000 ≤ l[i] ∧ l[i] ≤ 1000
        · simp only [h, and_self, decide_true, if_true, okC, Bool.true_and]
          exact ih
        · simp only [h, decide_false, if_false, okC, Bool.false_and, reduceCtorEq]
          exact Ev.now _
    exact evr (key 0 (by omega)) (by simp)

theorem impl_ClocksOk (l : List Int) (hl : l.length ≤ 1125899906842624) : Ev (fun k => impl_ClocksOk.f k l) (clocksOk l) := by
  unfold impl_ClocksOk.f impl_areAll_53.f
  refine Ev.bind (a := clocksOk l) ?_ (Ev.now _)
  have key : ∀ i, i ≤ l.length → Ev (fun k => impl_areAll_53.l0 k l 8 l (l.length : Int) (i : Int)) (decide (l.length ≤ 8) && (l.drop i).all okC) := by
    refine down _ ?_ (fun i hi ih => ?_)
    · refine Ev.step (fun k => by rw [impl_areAll_53.l0]) ?_
      simp only [Int.lt_irrefl, if_false]
      refine evr (Ev.now _) ?_
      simp only [List.drop_length, List.all_nil, Bool.and_true]
      exact decide_eq_decide.2 (by omega)
    · refine Ev.step (fun k => by rw [impl_areAll_53.l0]) ?_
      have h1 : (i : Int) < (l.length : Int) := by omega
      simp only [h1, Int.natCast_nonneg, if_true, impl_ClocksOk_1.f, within_eq, Option.bind_some, wsucc (show i < 9223372036854775807 by omega), rd_get hi]
      rw [List.drop_eq_getElem_cons hi, List.all_cons]
      by_cases h : -1000 ≤ l[i] ∧ l[i] ≤ 1000
      · simp only [h, and_self, decide_true, if_true, okC, Bool.true_and]
        exact ih
      · simp only [h, decide_false, if_false, okC, Bool.false_and, reduceCtorEq, Bool.and_false]
        exact Ev.now _
  exact evr (key 0 (by omega)) (by simp [clocksOk])

/-- What the clock i tells. -/
def localAt (l : List Int) (i n : Int) : Int :=
  if clocksOk l = true ∧ 0 ≤ i ∧ i < l.length ∧ 0 ≤ n ∧ n ≤ 100000 ∧ 0 ≤ n + rd l i then n + rd l i else 0
theorem spec_LocalAt (l : List Int) (i n : Int) (hl : l.length ≤ 1125899906842624) : Ev (fun k => spec_LocalAt.f k l i n) (localAt l i n) := by
  unfold spec_LocalAt.f localAt
  refine Ev.bind (spec_ClocksOk l hl) ?_
  by_cases hc : clocksOk l = true
  · simp only [hc, if_true, true_and, l1In_eq, Option.bind_some]
    by_cases h1 : i < 0
    · simp only [h1, if_true]
      exact evr (Ev.now _) (by rw [if_neg]; omega)
    · by_cases h2 : i ≥ (l.length : Int)
      · simp only [h1, h2, if_true, if_false]
        exact evr (Ev.now _) (by rw [if_neg]; omega)
      · by_cases h3 : 0 ≤ n ∧ n ≤ 100000
        · have hr := clocksOk_rd hc (i := i) (by omega) (by omega)
          simp only [h1, h2, h3, show 0 ≤ i by omega, show i < (l.length : Int) by omega, if_true, if_false, decide_true, true_and, and_true, w64 (n := n + rd l i) (by omega) (by omega)]
          by_cases h4 : n + rd l i < 0
          · simp only [h4, if_true]
            exact evr (Ev.now _) (by rw [if_neg]; omega)
          · simp only [h4, if_false]
            exact evr (Ev.now _) (by rw [if_pos]; omega)
        · simp only [h1, h2, h3, if_true, if_false, decide_false, reduceCtorEq]
          exact evr (Ev.now _) (by rw [if_neg]; omega)
  · simp only [hc, if_false, reduceCtorEq, false_and]
    exact Ev.now _
theorem impl_LocalAt (l : List Int) (i n : Int) (hl : l.length ≤ 1125899906842624) : Ev (fun k => impl_LocalAt.f k l i n) (localAt l i n) := by
  unfold impl_LocalAt.f localAt
  refine Ev.bind (impl_ClocksOk l hl) ?_
  by_cases hc : clocksOk l = true
  · simp only [hc, if_true, true_and, within_eq, isTime_eq, Option.bind_some, w64 (n := (l.length : Int) - 1) (by omega) (by omega)]
    by_cases h1 : 0 ≤ i ∧ i ≤ (l.length : Int) - 1
    · by_cases h3 : 0 ≤ n ∧ n ≤ 100000
      · have hr := clocksOk_rd hc (i := i) (by omega) (by omega)
        simp only [h1, h3, show 0 ≤ i by omega, show i < (l.length : Int) by omega, if_true, decide_true, true_and, and_true, w64 (n := n + rd l i) (by omega) (by omega)]
        refine evr (Ev.now _) ?_
        unfold mx
        by_cases h4 : 0 ≤ n + rd l i
        · rw [if_pos h4]
          split <;> omega
        · rw [if_neg h4, if_neg (by omega)]
      · simp only [h1, h3, decide_true, decide_false, if_true, if_false, reduceCtorEq]
        exact evr (Ev.now _) (by rw [if_neg]; omega)
    · simp only [h1, decide_false, if_false, reduceCtorEq]
      exact evr (Ev.now _) (by rw [if_neg]; omega)
  · simp only [hc, if_false, reduceCtorEq, false_and]
    exact Ev.now _
end Go.Proofs.Ytfkecldlhngjhaa.Clocks
