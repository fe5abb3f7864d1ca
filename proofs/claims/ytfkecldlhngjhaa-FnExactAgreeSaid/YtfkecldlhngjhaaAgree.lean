/- Which clocks agree: in the program and in the reference alike. -/
import Derived.Test.YtfkecldlhngjhaaClocks2
import Derived.Test.YtfkecldlhngjhaaXAf15
import Derived.Test.YtfkecldlhngjhaaXAf17
import Derived.Test.YtfkecldlhngjhaaXAf39
import Derived.Test.YtfkecldlhngjhaaXAf40
set_option linter.unusedSimpArgs false
namespace Go.Proofs.Ytfkecldlhngjhaa.Clocks
open Go.RowKit Go.Proofs.YtfkecldlhngjhaaW.PrintWords Go.Proofs.YtfkecldlhngjhaaW.PrintMore Go.Proofs.Ytfkecldlhngjhaa.K Go.Proofs.Ytfkecldlhngjhaa.XA

/-- The places, from i on, of the numbers that lie from low to low + s. -/
def selFrom (low s : Int) : List Int → Nat → List Int
  | [], _ => []
  | x :: xs, i => if x ≥ low ∧ x - low ≤ s then (i : Int) :: selFrom low s xs (i + 1) else selFrom low s xs (i + 1)
def agreeGo (c : List Int) (s : Int) : List Int → List Int → Int → List Int
  | [], best, _ => best
  | low :: rest, best, lowest =>
    if (selFrom low s c 0).length > best.length ∨ ((selFrom low s c 0).length = best.length ∧ low < lowest) then agreeGo c s rest (selFrom low s c 0) low else agreeGo c s rest best lowest
def agree (c : List Int) (s : Int) : List Int := if clocksOk c = true ∧ 0 ≤ s then agreeGo c s c [] 0 else []
theorem selFrom_length (low s : Int) (l : List Int) (i : Nat) : (selFrom low s l i).length ≤ l.length := by
  induction l generalizing i with
  | nil => simp [selFrom]
  | cons x l ih =>
    unfold selFrom
    have := ih (i + 1)
    split <;> simp <;> omega
theorem agreeGo_length (c : List Int) (s : Int) (l best : List Int) (z : Int) (h : best.length ≤ c.length) : (agreeGo c s l best z).length ≤ c.length := by
  induction l generalizing best z with
  | nil => exact h
  | cons x l ih =>
    unfold agreeGo
    split
    · exact ih _ _ (selFrom_length _ _ _ _)
    · exact ih _ _ h
theorem agree_length (c : List Int) (s : Int) : (agree c s).length ≤ c.length := by
  unfold agree
  split
  · exact agreeGo_length _ _ _ _ _ (by simp)
  · simp

theorem impl_Agree (c : List Int) (s : Int) (hl : c.length ≤ 1125899906842624) : Ev (fun k => impl_Agree.f k c s) (agree c s) := by
  unfold impl_Agree.f agree
  simp only [Option.bind_some]
  refine Ev.bind (impl_ClocksOk c hl) ?_
  by_cases hc : clocksOk c = true
  · have h8 := clocksOk_len hc
    simp only [hc, if_true, true_and]
    refine Ev.step (fun k => by rw [impl_Agree.j0]) ?_
    by_cases hs : s < 0
    · simp only [hs, decide_true, if_true]
      exact evr (Ev.now _) (by rw [if_neg]; omega)
    · simp only [hs, decide_false, reduceCtorEq, if_false, show 0 ≤ s by omega, if_true]
      have inner : ∀ (best : List Int) (lowest low : Int) (j : Int) (r : List Int), -1000 ≤ low → low ≤ 1000 → ∀ i, i ≤ c.length → ∀ acc : List Int, acc.length ≤ i →
          Ev (fun k => impl_Agree.l1 k c s best lowest low (acc ++ selFrom low s (c.drop i) i) c (c.length : Int) j c (c.length : Int) (c.length : Int)) r →
          Ev (fun k => impl_Agree.l1 k c s best lowest low acc c (c.length : Int) j c (c.length : Int) (i : Int)) r := by
        intro best lowest low j r hlo hhi
        refine down _ (fun acc ha h => ?_) (fun i hi ih acc ha h => ?_)
        · simpa [selFrom] using h
        · have hx := clocksOk_get hc hi
          rw [List.drop_eq_getElem_cons hi] at h
          refine Ev.step (fun k => by rw [impl_Agree.l1]) ?_
          simp only [show (i : Int) < (c.length : Int) by omega, Int.natCast_nonneg, if_true, wsucc (show i < 9223372036854775807 by omega), rd_get hi, w64 (n := c[i] - low) (by omega) (by omega), show acc.length < 17592186044416 by omega]
          by_cases h1 : c[i] ≥ low
          · by_cases h2 : c[i] - low ≤ s
            · simp only [h1, h2, if_true]
              refine ih _ (by simp; omega) ?_
              simpa [selFrom, h1, h2] using h
            · simp only [h1, h2, if_true, if_false]
              refine ih _ (by omega) ?_
              simpa [selFrom, h1, h2] using h
          · simp only [h1, if_false]
            refine ih _ (by omega) ?_
            simpa [selFrom, h1] using h
      have outer : ∀ j, j ≤ c.length → ∀ (best : List Int) (lowest : Int), Ev (fun k => impl_Agree.l0 k c s best lowest c (c.length : Int) (j : Int)) (agreeGo c s (c.drop j) best lowest) := by
        refine down _ (fun best lowest => ?_) (fun j hj ih best lowest => ?_)
        · refine Ev.step (fun k => by rw [impl_Agree.l0]) ?_
          simp only [Int.lt_irrefl, if_false]
          exact evr (Ev.now _) (by simp [agreeGo])
        · have hx := clocksOk_get hc hj
          rw [List.drop_eq_getElem_cons hj]
          refine Ev.step (fun k => by rw [impl_Agree.l0]) ?_
          simp only [show (j : Int) < (c.length : Int) by omega, Int.natCast_nonneg, if_true, rd_get hj]
          refine inner best lowest c[j] j _ hx.1 hx.2 0 (by omega) [] (by simp) ?_
          rw [List.drop_zero, List.nil_append]
          refine Ev.step (fun k => by rw [impl_Agree.l1]) ?_
          simp only [Int.lt_irrefl, if_false, wsucc (show j < 9223372036854775807 by omega)]
          unfold agreeGo
          by_cases h1 : (selFrom c[j] s c 0).length > best.length
          · simp only [show ((selFrom c[j] s c 0).length : Int) > (best.length : Int) by omega, h1, true_or, if_true]
            exact ih _ _
          · simp only [show ¬ (((selFrom c[j] s c 0).length : Int) > (best.length : Int)) by omega, h1, false_or, if_false]
            by_cases h2 : (selFrom c[j] s c 0).length = best.length
            · simp only [show ((selFrom c[j] s c 0).length : Int) = (best.length : Int) by omega, h2, true_and, if_true]
              by_cases h3 : c[j] < lowest
              · simp only [h3, if_true]
                exact ih _ _
              · simp only [h3, if_false]
                exact ih _ _
            · simp only [show ¬ (((selFrom c[j] s c 0).length : Int) = (best.length : Int)) by omega, h2, false_and, if_false]
              exact ih _ _
      exact outer 0 (by omega) [] 0
  · simp only [hc, if_false, reduceCtorEq, false_and]
    refine Ev.step (fun k => by rw [impl_Agree.j0]) ?_
    simp only [if_true]
    exact Ev.now _
theorem spec_Agree (c : List Int) (s : Int) (hl : c.length ≤ 1125899906842624) : Ev (fun k => spec_Agree.f k c s) (agree c s) := by
  unfold spec_Agree.f agree
  simp only [Option.bind_some]
  refine Ev.bind (spec_ClocksOk c hl) ?_
  by_cases hc : clocksOk c = true
  · have h8 := clocksOk_len hc
    simp only [hc, if_true, true_and]
    refine Ev.step (fun k => by rw [spec_Agree.j0]) ?_
    by_cases hs : s < 0
    · simp only [hs, decide_true, if_true]
      exact evr (Ev.now _) (by rw [if_neg]; omega)
    · simp only [hs, decide_false, reduceCtorEq, if_false, show 0 ≤ s by omega, if_true]
      have inner : ∀ (best : List Int) (lowest : Int) (j : Nat) (hj : j < c.length) (r : List Int), ∀ i, i ≤ c.length → ∀ acc : List Int, acc.length ≤ i →
          Ev (fun k => spec_Agree.l1 k c s best lowest (j : Int) (acc ++ selFrom c[j] s (c.drop i) i) (c.length : Int)) r →
          Ev (fun k => spec_Agree.l1 k c s best lowest (j : Int) acc (i : Int)) r := by
        intro best lowest j hj r
        have hlow := clocksOk_get hc hj
        refine down _ (fun acc ha h => ?_) (fun i hi ih acc ha h => ?_)
        · simpa [selFrom] using h
        · have hx := clocksOk_get hc hi
          rw [List.drop_eq_getElem_cons hi] at h
          refine Ev.step (fun k => by rw [spec_Agree.l1]) ?_
          simp only [show (i : Int) < (c.length : Int) by omega, show (j : Int) < (c.length : Int) by omega, Int.natCast_nonneg, if_true, wsucc (show i < 9223372036854775807 by omega), rd_get hi, rd_get hj, w64 (n := c[i] - c[j]) (by omega) (by omega), show acc.length < 17592186044416 by omega]
          by_cases h1 : c[i] ≥ c[j]
          · by_cases h2 : c[i] - c[j] ≤ s
            · simp only [h1, h2, if_true]
              refine ih _ (by simp; omega) ?_
              simpa [selFrom, h1, h2] using h
            · simp only [h1, h2, if_true, if_false]
              refine ih _ (by omega) ?_
              simpa [selFrom, h1, h2] using h
          · simp only [h1, if_false]
            refine ih _ (by omega) ?_
            simpa [selFrom, h1] using h
      have outer : ∀ j, j ≤ c.length → ∀ (best : List Int) (lowest : Int), Ev (fun k => spec_Agree.l0 k c s best lowest (j : Int)) (agreeGo c s (c.drop j) best lowest) := by
        refine down _ (fun best lowest => ?_) (fun j hj ih best lowest => ?_)
        · refine Ev.step (fun k => by rw [spec_Agree.l0]) ?_
          simp only [Int.lt_irrefl, if_false]
          exact evr (Ev.now _) (by simp [agreeGo])
        · have hx := clocksOk_get hc hj
          rw [List.drop_eq_getElem_cons hj]
          refine Ev.step (fun k => by rw [spec_Agree.l0]) ?_
          simp only [show (j : Int) < (c.length : Int) by omega, if_true]
          refine inner best lowest j hj _ 0 (by omega) [] (by simp) ?_
          rw [List.drop_zero, List.nil_append]
          refine Ev.step (fun k => by rw [spec_Agree.l1]) ?_
          simp only [Int.lt_irrefl, if_false, wsucc (show j < 9223372036854775807 by omega), show (j : Int) < (c.length : Int) by omega, Int.natCast_nonneg, if_true, rd_get hj]
          unfold agreeGo
          by_cases h1 : (selFrom c[j] s c 0).length > best.length
          · simp only [show ((selFrom c[j] s c 0).length : Int) > (best.length : Int) by omega, h1, true_or, if_true]
            exact ih _ _
          · simp only [show ¬ (((selFrom c[j] s c 0).length : Int) > (best.length : Int)) by omega, h1, false_or, if_false]
            by_cases h2 : (selFrom c[j] s c 0).length = best.length
            · simp only [show ((selFrom c[j] s c 0).length : Int) = (best.length : Int) by omega, h2, true_and, if_true]
              by_cases h3 : c[j] < lowest
              · simp only [h3, if_true]
                exact ih _ _
              · simp only [h3, if_false]
                exact ih _ _
            · simp only [show ¬ (((selFrom c[j] s c 0).length : Int) = (best.length : Int)) by omega, h2, false_and, if_false]
              exact ih _ _
      exact outer 0 (by omega) [] 0
  · simp only [hc, if_false, reduceCtorEq, false_and]
    refine Ev.step (fun k => by rw [spec_Agree.j0]) ?_
    simp only [if_true]
    exact Ev.now _
end Go.Proofs.Ytfkecldlhngjhaa.Clocks
