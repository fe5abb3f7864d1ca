/- What the laws' own helpers on lists of numbers come to: a copy is the list, two lists are told alike just where they are, marks are found again. -/
import Derived.Test.YtfkecldlhngjhaaK
import Derived.Test.YtfkecldlhngjhaaXAf16
import Derived.Test.YtfkecldlhngjhaaXAf18
import Derived.Test.YtfkecldlhngjhaaXAf37
import Derived.Test.YtfkecldlhngjhaaXAf38
namespace Go.Proofs.Ytfkecldlhngjhaa.Ints
open Go.RowKit Go.Proofs.YtfkecldlhngjhaaW.PrintWords Go.Proofs.YtfkecldlhngjhaaW.PrintMore Go.Proofs.Ytfkecldlhngjhaa.K Go.Proofs.Ytfkecldlhngjhaa.XA

theorem toIntS (l : List Int) (hl : l.length ≤ 35184372088832) : Ev (fun k => laws_toIntS.f k l) l := by
  unfold laws_toIntS.f
  simp only [Int.natCast_nonneg, Int.toNat_natCast, hl, if_true]
  have key : ∀ i, i ≤ l.length → ∀ acc : List Int, acc.length = l.length → Ev (fun k => laws_toIntS.l0 k l acc (i : Int)) (acc.take i ++ l.drop i) := by
    refine down _ (fun acc ha => ?_) (fun i hi ih acc ha => ?_)
    · refine Ev.step (fun k => by rw [laws_toIntS.l0]) ?_
      simp only [Int.lt_irrefl, if_false]
      exact evr (Ev.now _) (by simp [← ha])
    · refine Ev.step (fun k => by rw [laws_toIntS.l0]) ?_
      have h1 : (i : Int) < (l.length : Int) := by omega
      have h2 : (i : Int) < (acc.length : Int) := by omega
      simp only [h1, h2, Int.natCast_nonneg, if_true, wsucc (show i < 9223372036854775807 by omega), Int.toNat_natCast, rd_get hi]
      refine evr (ih (acc.set i l[i]) (by simp [ha])) ?_
      rw [← List.getElem_cons_drop hi, List.take_succ_eq_append_getElem (by simp; omega), List.getElem_set_self, List.take_set_of_le (by omega), List.append_assoc]
      rfl
  refine evr (key 0 (by omega) _ (by simp)) (by simp)

theorem eqIntS_l (a b : List Int) (hl : a.length = b.length) (hb : a.length < 9223372036854775807) : Ev (fun k => laws_eqIntS.l0 k a b 0) (decide (a = b)) := by
  have key : ∀ i, i ≤ a.length → Ev (fun k => laws_eqIntS.l0 k a b (i : Int)) (decide (a.drop i = b.drop i)) := by
    refine down _ ?_ (fun i hi ih => ?_)
    · refine Ev.step (fun k => by rw [laws_eqIntS.l0]) ?_
      simp only [Int.lt_irrefl, if_false]
      exact evr (Ev.now _) (by simp [hl])
    · refine Ev.step (fun k => by rw [laws_eqIntS.l0]) ?_
      have h1 : (i : Int) < (a.length : Int) := by omega
      have h2 : (i : Int) < (b.length : Int) := by omega
      simp only [h1, h2, Int.natCast_nonneg, if_true, wsucc (show i < 9223372036854775807 by omega), rd_get hi, rd_get (show i < b.length by omega)]
      by_cases h : a[i] = b[i]'(by omega)
      · simp only [h, if_true]
        exact evr ih (decide_eq_decide.2 (by rw [drop_eq_iff hi (show i < b.length by omega)]; exact (and_iff_right h).symm))
      · simp only [h, if_false]
        exact evr (Ev.now _) (decide_eq_false (by rw [drop_eq_iff hi (show i < b.length by omega)]; exact fun h2 => h h2.1)).symm
  exact evr (key 0 (by omega)) (by simp)
theorem eqIntS (a b : List Int) (hb : a.length < 9223372036854775807) : Ev (fun k => laws_eqIntS.f k a b) (decide (a = b)) := by
  unfold laws_eqIntS.f
  by_cases h : a.length = b.length
  · simp only [h, if_true]
    exact eqIntS_l a b h hb
  · have h' : ¬ ((a.length : Int) = (b.length : Int)) := by omega
    simp only [h', if_false]
    exact evr (Ev.now _) (by
      symm
      rw [decide_eq_false_iff_not]
      intro e
      exact h (by rw [e]))

/-- What marking leaves: the numbers from k on. -/
def marks (k : Int) (n : Nat) : List Int := (List.range n).map fun i : Nat => k + (i : Int)
theorem marks_length (k : Int) (n : Nat) : (marks k n).length = n := by simp [marks]
theorem marks_get (k : Int) (n i : Nat) (h : i < n) : (marks k n)[i]'(by rw [marks_length]; exact h) = k + i := by simp [marks]
theorem markIntS (l : List Int) (m : Int) (hl : l.length ≤ 1125899906842624) (h0 : 0 ≤ m) (h1 : m ≤ 1125899906842624) : Ev (fun k => laws_markIntS.f k l m) (m + l.length, marks m l.length) := by
  unfold laws_markIntS.f
  have key : ∀ i, i ≤ l.length → ∀ acc : List Int, acc.length = l.length → acc.take i = (marks m l.length).take i → Ev (fun k => laws_markIntS.l0 k acc (m + i) (i : Int)) (m + l.length, marks m l.length) := by
    refine down _ (fun acc ha hp => ?_) (fun i hi ih acc ha hp => ?_)
    · refine Ev.step (fun k => by rw [laws_markIntS.l0]) ?_
      simp only [ha, Int.lt_irrefl, if_false]
      refine evr (Ev.now _) ?_
      rw [List.take_of_length_le (by omega), List.take_of_length_le (by rw [marks_length]; omega)] at hp
      rw [hp]
    · refine Ev.step (fun k => by rw [laws_markIntS.l0]) ?_
      have h2 : (i : Int) < (acc.length : Int) := by omega
      simp only [h2, Int.natCast_nonneg, if_true, wsucc (show i < 9223372036854775807 by omega), Int.toNat_natCast]
      rw [w64 (by omega) (by omega), show m + (i : Int) + 1 = m + ((i + 1 : Nat) : Int) by omega]
      refine ih _ (by simp [ha]) ?_
      rw [List.take_succ_eq_append_getElem (by simp; omega), List.take_succ_eq_append_getElem (by rw [marks_length]; omega), List.getElem_set_self, List.take_set_of_le (by omega), hp, marks_get _ _ _ hi]
  have := key 0 (by omega) l rfl (by simp)
  simpa using this
theorem heldIntS (l : List Int) (m : Int) (hl : l.length ≤ 1125899906842624) (h0 : 0 ≤ m) (h1 : m ≤ 1125899906842624) (he : l = marks m l.length) : Ev (fun k => laws_heldIntS.f k l m) (m + l.length) := by
  unfold laws_heldIntS.f
  have key : ∀ i, i ≤ l.length → Ev (fun k => laws_heldIntS.l0 k l (m + i) (i : Int)) (m + l.length) := by
    refine down _ ?_ (fun i hi ih => ?_)
    · refine Ev.step (fun k => by rw [laws_heldIntS.l0]) ?_
      simp only [Int.lt_irrefl, if_false]
      exact Ev.now _
    · refine Ev.step (fun k => by rw [laws_heldIntS.l0]) ?_
      have h2 : (i : Int) < (l.length : Int) := by omega
      have h3 : l[i] = m + i := by
        have := marks_get m l.length i hi
        simp only [← he] at this
        exact this
      simp only [h2, Int.natCast_nonneg, if_true, wsucc (show i < 9223372036854775807 by omega), rd_get hi, h3]
      rw [w64 (by omega) (by omega), show m + (i : Int) + 1 = m + ((i + 1 : Nat) : Int) by omega]
      exact ih
  have := key 0 (by omega)
  simpa using this
end Go.Proofs.Ytfkecldlhngjhaa.Ints
