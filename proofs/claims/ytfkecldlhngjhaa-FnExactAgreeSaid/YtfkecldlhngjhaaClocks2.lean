/- How far clocks are apart, and how one is slewed: in the program and in the reference alike. -/
import Derived.Test.YtfkecldlhngjhaaClocks
import Derived.Test.YtfkecldlhngjhaaXAf15
import Derived.Test.YtfkecldlhngjhaaXAf17
import Derived.Test.YtfkecldlhngjhaaXAf33
import Derived.Test.YtfkecldlhngjhaaXAf34
import Derived.Test.YtfkecldlhngjhaaXAf35
import Derived.Test.YtfkecldlhngjhaaXAf36
import Derived.Test.YtfkecldlhngjhaaXAf59
import Derived.Test.YtfkecldlhngjhaaXAf60
import Derived.Test.YtfkecldlhngjhaaXAf61
set_option linter.unusedSimpArgs false
namespace Go.Proofs.Ytfkecldlhngjhaa.Clocks
open Go.RowKit Go.Proofs.YtfkecldlhngjhaaW.PrintWords Go.Proofs.YtfkecldlhngjhaaW.PrintMore Go.Proofs.Ytfkecldlhngjhaa.K Go.Proofs.Ytfkecldlhngjhaa.XA

def spread (l : List Int) : Int := if clocksOk l = true ∧ l ≠ [] then (l.foldl max (rd l 0)) - (l.foldl min (rd l 0)) else 0

theorem foldl_max_in {l : List Int} {m a b : Int} (hm : a ≤ m ∧ m ≤ b) (h : ∀ x ∈ l, a ≤ x ∧ x ≤ b) : a ≤ l.foldl max m ∧ l.foldl max m ≤ b := by
  induction l generalizing m with
  | nil => exact hm
  | cons x l ih =>
    have hx := h x (by simp)
    exact ih (m := max m x) (by omega) (fun y hy => h y (by simp [hy]))
theorem foldl_min_in {l : List Int} {m a b : Int} (hm : a ≤ m ∧ m ≤ b) (h : ∀ x ∈ l, a ≤ x ∧ x ≤ b) : a ≤ l.foldl min m ∧ l.foldl min m ≤ b := by
  induction l generalizing m with
  | nil => exact hm
  | cons x l ih =>
    have hx := h x (by simp)
    exact ih (m := min m x) (by omega) (fun y hy => h y (by simp [hy]))
theorem clocksOk_mem {l : List Int} (h : clocksOk l = true) : ∀ x ∈ l, -1000 ≤ x ∧ x ≤ 1000 := by
  intro x hx
  obtain ⟨i, hi, rfl⟩ := List.getElem_of_mem hx
  exact clocksOk_get h hi
theorem spread_wrap {l : List Int} (h : clocksOk l = true) (hn : 0 < l.length) : wrap64 ((l.foldl max (rd l 0)) - (l.foldl min (rd l 0))) = (l.foldl max (rd l 0)) - (l.foldl min (rd l 0)) := by
  have h0 := clocksOk_rd h (i := 0) (by omega) (by omega)
  have h1 := foldl_max_in h0 (clocksOk_mem h)
  have h2 := foldl_min_in h0 (clocksOk_mem h)
  exact w64 (by omega) (by omega)
theorem Max_eq (l : List Int) (h0 : 0 < l.length) (hl : l.length ≤ 1125899906842624) : Ev (fun k => slices_Max_int_int.f k l) (l.foldl max (rd l 0)) := by
  unfold slices_Max_int_int.f
  simp only [show ¬ ((l.length : Int) < 1) by omega, show (0 : Int) < (l.length : Int) by omega, if_true, if_false]
  have key : ∀ i, i ≤ l.length → ∀ m, Ev (fun k => slices_Max_int_int.l0 k l m (i : Int)) ((l.drop i).foldl max m) := by
    refine down _ (fun m => ?_) (fun i hi ih m => ?_)
    · refine Ev.step (fun k => by rw [slices_Max_int_int.l0]) ?_
      simp only [Int.lt_irrefl, if_false]
      exact evr (Ev.now _) (by simp)
    · refine Ev.step (fun k => by rw [slices_Max_int_int.l0]) ?_
      simp only [show (i : Int) < (l.length : Int) by omega, Int.natCast_nonneg, if_true, wsucc (show i < 9223372036854775807 by omega), rd_get hi]
      refine evr (ih _) ?_
      rw [List.drop_eq_getElem_cons hi, List.foldl_cons]
      congr 1
      unfold mx
      split <;> omega
  refine evr (key 1 (by omega) _) ?_
  conv => rhs; rw [← List.drop_zero (l := l), List.drop_eq_getElem_cons h0, List.foldl_cons]
  congr 1
  rw [show rd ((l[0]) :: List.drop (0 + 1) l) 0 = l[0] from rfl, show rd l 0 = l[0] from rd_get (i := 0) h0]
  omega
theorem Min_eq (l : List Int) (h0 : 0 < l.length) (hl : l.length ≤ 1125899906842624) : Ev (fun k => slices_Min_int_int.f k l) (l.foldl min (rd l 0)) := by
  unfold slices_Min_int_int.f
  simp only [show ¬ ((l.length : Int) < 1) by omega, show (0 : Int) < (l.length : Int) by omega, if_true, if_false]
  have key : ∀ i, i ≤ l.length → ∀ m, Ev (fun k => slices_Min_int_int.l0 k l m (i : Int)) ((l.drop i).foldl min m) := by
    refine down _ (fun m => ?_) (fun i hi ih m => ?_)
    · refine Ev.step (fun k => by rw [slices_Min_int_int.l0]) ?_
      simp only [Int.lt_irrefl, if_false]
      exact evr (Ev.now _) (by simp)
    · refine Ev.step (fun k => by rw [slices_Min_int_int.l0]) ?_
      simp only [show (i : Int) < (l.length : Int) by omega, Int.natCast_nonneg, if_true, wsucc (show i < 9223372036854775807 by omega), rd_get hi]
      refine evr (ih _) ?_
      rw [List.drop_eq_getElem_cons hi, List.foldl_cons]
      congr 1
      unfold mn
      split <;> omega
  refine evr (key 1 (by omega) _) ?_
  conv => rhs; rw [← List.drop_zero (l := l), List.drop_eq_getElem_cons h0, List.foldl_cons]
  congr 1
  rw [show rd ((l[0]) :: List.drop (0 + 1) l) 0 = l[0] from rfl, show rd l 0 = l[0] from rd_get (i := 0) h0]
  omega
theorem impl_Spread (l : List Int) (hl : l.length ≤ 1125899906842624) : Ev (fun k => impl_Spread.f k l) (spread l) := by
  unfold impl_Spread.f spread
  refine Ev.bind (impl_ClocksOk l hl) ?_
  by_cases hc : clocksOk l = true
  · by_cases h0 : l = []
    · subst h0
      simp only [hc, if_true, ne_eq, not_true_eq_false, and_false, if_false, List.length_nil, Int.natCast_zero, beq_self_eq_true]
      refine Ev.step (fun k => by rw [impl_Spread.j0]) ?_
      simp only [if_true]
      exact Ev.now _
    · have hn : 0 < l.length := List.length_pos_iff.2 h0
      have hz : ((l.length : Int) == 0) = false := beq_eq_false_iff_ne.2 (by omega)
      simp only [hc, if_true, ne_eq, h0, not_false_eq_true, and_self, hz]
      refine Ev.step (fun k => by rw [impl_Spread.j0]) ?_
      simp only [reduceCtorEq, if_false]
      refine Ev.bind (Max_eq l hn hl) ?_
      refine Ev.bind (Min_eq l hn hl) ?_
      exact evr (Ev.now _) (spread_wrap hc hn)
  · simp only [hc, if_false, reduceCtorEq, false_and]
    refine Ev.step (fun k => by rw [impl_Spread.j0]) ?_
    simp only [if_true]
    exact Ev.now _
theorem spec_Spread (l : List Int) (hl : l.length ≤ 1125899906842624) : Ev (fun k => spec_Spread.f k l) (spread l) := by
  unfold spec_Spread.f spread
  refine Ev.bind (spec_ClocksOk l hl) ?_
  by_cases hc : clocksOk l = true
  · by_cases h0 : l = []
    · subst h0
      simp only [hc, if_true, ne_eq, not_true_eq_false, and_false, if_false, List.length_nil, Int.natCast_zero, beq_self_eq_true]
      refine Ev.step (fun k => by rw [spec_Spread.j0]) ?_
      simp only [if_true]
      exact Ev.now _
    · have hn : 0 < l.length := List.length_pos_iff.2 h0
      have hz : ((l.length : Int) == 0) = false := beq_eq_false_iff_ne.2 (by omega)
      simp only [hc, if_true, ne_eq, h0, not_false_eq_true, and_self, hz]
      refine Ev.step (fun k => by rw [spec_Spread.j0]) ?_
      simp only [reduceCtorEq, show (0 : Int) < (l.length : Int) by omega, if_true, if_false]
      have key : ∀ i, i ≤ l.length → ∀ m M, Ev (fun k => spec_Spread.l0 k l m M (i : Int)) (wrap64 ((l.drop i).foldl max M - (l.drop i).foldl min m)) := by
        refine down _ (fun m M => ?_) (fun i hi ih m M => ?_)
        · refine Ev.step (fun k => by rw [spec_Spread.l0]) ?_
          simp only [Int.lt_irrefl, if_false]
          exact evr (Ev.now _) (by simp)
        · refine Ev.step (fun k => by rw [spec_Spread.l0]) ?_
          simp only [show (i : Int) < (l.length : Int) by omega, Int.natCast_nonneg, if_true, wsucc (show i < 9223372036854775807 by omega), rd_get hi]
          rw [List.drop_eq_getElem_cons hi, List.foldl_cons, List.foldl_cons]
          by_cases h1 : l[i] < m <;> by_cases h2 : l[i] > M <;> simp only [h1, h2, if_true, if_false]
          · exact evr (ih _ _) (by rw [show max M l[i] = l[i] by omega, show min m l[i] = l[i] by omega])
          · exact evr (ih _ _) (by rw [show max M l[i] = M by omega, show min m l[i] = l[i] by omega])
          · exact evr (ih _ _) (by rw [show max M l[i] = l[i] by omega, show min m l[i] = m by omega])
          · exact evr (ih _ _) (by rw [show max M l[i] = M by omega, show min m l[i] = m by omega])
      exact evr (key 0 (by omega) _ _) (spread_wrap hc hn)
  · simp only [hc, if_false, reduceCtorEq, false_and]
    refine Ev.step (fun k => by rw [spec_Spread.j0]) ?_
    simp only [if_true]
    exact Ev.now _

/-- A clock, slewed. -/
def slew1 (x m : Int) : Int := if x > m then x - m else if -x > m then x + m else 0
def slew (l : List Int) (i m : Int) : List Int := if clocksOk l = true then (if 0 ≤ i ∧ i < l.length ∧ 0 ≤ m then l.set i.toNat (slew1 (rd l i) m) else l) else []
theorem slew_wrap {x m : Int} (h0 : -1000 ≤ x) (h1 : x ≤ 1000) (hm : 0 ≤ m) : (if x > m then wrap64 (x - m) else if wrap64 (-x) > m then wrap64 (x + m) else 0) = slew1 x m := by
  unfold slew1
  rw [w64 (n := -x) (by omega) (by omega)]
  split
  · exact w64 (by omega) (by omega)
  · split
    · exact w64 (by omega) (by omega)
    · rfl
theorem copyInts_eq (l : List Int) (hl : l.length ≤ 1125899906842) : impl_copyInts.f l = some l := by
  unfold impl_copyInts.f
  rw [if_pos (by simp only [List.length_nil]; omega)]
  rfl
theorem impl_Slew (l : List Int) (i m : Int) (hl : l.length ≤ 1125899906842) : Ev (fun k => impl_Slew.f k l i m) (slew l i m) := by
  unfold impl_Slew.f slew
  refine Ev.bind (impl_ClocksOk l (by omega)) ?_
  by_cases hc : clocksOk l = true
  · simp only [hc, if_true, copyInts_eq l hl, Option.bind_some, within_eq, w64 (n := (l.length : Int) - 1) (by omega) (by omega)]
    by_cases h1 : 0 ≤ i ∧ i ≤ (l.length : Int) - 1
    · simp only [h1, and_self, decide_true, if_true]
      refine Ev.step (fun k => by rw [impl_Slew.j0]) ?_
      by_cases h2 : m < 0
      · simp only [h2, decide_true, if_true]
        exact evr (Ev.now _) (by rw [if_neg]; omega)
      · have hr := clocksOk_rd hc (i := i) (by omega) (by omega)
        simp only [h2, decide_false, reduceCtorEq, if_false, show 0 ≤ i by omega, show i < (l.length : Int) by omega, show 0 ≤ m by omega, and_self, if_true]
        rw [← slew_wrap hr.1 hr.2 (show 0 ≤ m by omega)]
        by_cases h3 : rd l i > m
        · simp only [h3, if_true]
          exact Ev.now _
        · by_cases h4 : wrap64 (-(rd l i)) > m <;> simp only [h3, h4, if_true, if_false] <;> exact Ev.now _
    · simp only [h1, decide_false, if_false, reduceCtorEq]
      refine Ev.step (fun k => by rw [impl_Slew.j0]) ?_
      simp only [if_true]
      exact evr (Ev.now _) (by rw [if_neg]; omega)
  · simp only [hc, if_false, reduceCtorEq, false_and]
    exact Ev.now _
theorem spec_Slew (l : List Int) (i m : Int) (hl : l.length ≤ 1125899906842) : Ev (fun k => spec_Slew.f k l i m) (slew l i m) := by
  unfold spec_Slew.f slew
  refine Ev.bind (spec_ClocksOk l (by omega)) ?_
  have stay : Ev (fun k => spec_Slew.j0 k l i m l true) l := by
    refine Ev.step (fun k => by rw [spec_Slew.j0]) ?_
    simp only [if_true]
    exact Ev.now _
  by_cases hc : clocksOk l = true
  · simp only [hc, if_true, Option.bind_some, List.length_nil, Nat.zero_add, show l.length < 17592186044416 by omega, List.nil_append]
    by_cases h1 : i < 0
    · simp only [h1, if_true]
      exact evr stay (by rw [if_neg]; omega)
    · by_cases h2 : i ≥ (l.length : Int)
      · simp only [h1, h2, if_true, if_false]
        exact evr stay (by rw [if_neg]; omega)
      · by_cases h3 : m < 0
        · simp only [h1, h2, h3, if_false, decide_true]
          exact evr stay (by rw [if_neg]; omega)
        · have hr := clocksOk_rd hc (i := i) (by omega) (by omega)
          simp only [h1, h2, h3, if_false, decide_false]
          refine Ev.step (fun k => by rw [spec_Slew.j0]) ?_
          simp only [reduceCtorEq, if_true, if_false, show 0 ≤ i by omega, show i < (l.length : Int) by omega, show 0 ≤ m by omega, and_self]
          rw [← slew_wrap hr.1 hr.2 (show 0 ≤ m by omega)]
          by_cases h5 : rd l i > m
          · simp only [h5, if_true]
            exact Ev.now _
          · by_cases h4 : wrap64 (-(rd l i)) > m <;> simp only [h5, h4, if_true, if_false] <;> exact Ev.now _
  · simp only [hc, if_false, reduceCtorEq, false_and, Option.bind_some]
    exact Ev.now _
theorem slew_length (l : List Int) (i m : Int) : (slew l i m).length ≤ l.length := by
  unfold slew
  split
  · split <;> simp
  · simp
end Go.Proofs.Ytfkecldlhngjhaa.Clocks
