/- The reference's way to count steps: all realms at once. -/
import Derived.Test.YtdplmjlbkaipiaaG2
namespace Go.Proofs.Ytdplmjlbkaipiaa.Ev
set_option linter.all false
open Go
set_option maxRecDepth 4000

/-- Hops that stay clear of a realm. -/
def Pout (l : List Hop) (out : Int) (h : Hop) : Prop := h ∈ l ∧ h.1 ≠ out ∧ h.2 ≠ out
noncomputable def farL (P : Hop → Prop) (to : Int) (k : Nat) : List Int := (List.range 8).map fun (x : Nat) => Dn P to k (x : Int)
open Classical in
noncomputable def midV (l : List Hop) (to out : Int) (r i : Nat) (x : Int) : Int :=
  if 0 ≤ Dn (Pout l out) to r x then Dn (Pout l out) to r x else if ∃ (j : Nat) (h : Hop), j < i ∧ l[j]? = some h ∧ h.1 = x ∧ h.1 ≠ out ∧ h.2 ≠ out ∧ Dn (Pout l out) to r h.2 = r then ((r + 1 : Nat) : Int) else -1
noncomputable def midL (l : List Hop) (to out : Int) (r i : Nat) : List Int := (List.range 8).map fun (x : Nat) => midV l to out r i (x : Int)

theorem map8_len (f : Nat → Int) : ((List.range 8).map f).length = 8 := by simp
theorem map8_get (f : Nat → Int) {i : Nat} (h : i < 8) : ((List.range 8).map f)[i]? = some (f i) := by simp [h]
theorem map8_set (f g : Nat → Int) {i : Nat} (h : i < 8) (h1 : ∀ x, x < 8 → x ≠ i → g x = f x) : ((List.range 8).map f).set i (g i) = (List.range 8).map g := by
  refine List.ext_getElem? fun j => ?_
  rw [List.getElem?_set, map8_len]
  by_cases hj : j < 8
  · rw [map8_get g hj]
    split
    · rename_i hij; subst hij; rfl
    · rename_i hij; rw [map8_get f hj, h1 j hj (fun e => hij e.symm)]
  · rw [List.getElem?_eq_none (by rw [map8_len]; omega)]
    split
    · omega
    · rw [List.getElem?_eq_none (by rw [map8_len]; omega)]

section
variable {l : List Hop} {to out : Int} {r i : Nat}

theorem mid_0 : midL l to out r 0 = farL (Pout l out) to r := by
  unfold midL farL
  refine List.map_congr_left fun x _ => ?_
  unfold midV
  split
  · rfl
  · rename_i h
    rw [if_neg (by rintro ⟨j, h, hj, _⟩; omega)]
    rcases Dn.cases (P := Pout l out) (to := to) r x with ⟨h2, _⟩ | ⟨n, h2, _⟩
    · exact h2.symm
    · rw [h2] at h; omega

theorem mid_end : midL l to out r l.length = farL (Pout l out) to (r + 1) := by
  unfold midL farL
  refine List.map_congr_left fun x _ => ?_
  rw [Dn.step]
  unfold midV
  split
  · rfl
  · have : (∃ (j : Nat) (h : Hop), j < l.length ∧ l[j]? = some h ∧ h.1 = (x : Int) ∧ h.1 ≠ out ∧ h.2 ≠ out ∧ Dn (Pout l out) to r h.2 = r) ↔ ∃ y, Pout l out ((x : Int), y) ∧ Dn (Pout l out) to r y = (r : Int) := by
      constructor
      · rintro ⟨j, ⟨a, b⟩, _, h1, h2, h3, h4, h5⟩
        subst h2
        exact ⟨b, ⟨List.mem_of_getElem? h1, h3, h4⟩, h5⟩
      · rintro ⟨y, ⟨h1, h2, h3⟩, h4⟩
        obtain ⟨j, hj⟩ := List.getElem?_of_mem h1
        exact ⟨j, _, (List.getElem?_eq_some_iff.1 hj).1, hj, rfl, h2, h3, h4⟩
    by_cases h : ∃ y, Pout l out ((x : Int), y) ∧ Dn (Pout l out) to r y = (r : Int)
    · rw [if_pos (this.2 h), if_pos h]
    · rw [if_neg (fun h2 => h (this.1 h2)), if_neg h]

theorem midV_eq {y : Int} : midV l to out r i y = r ↔ Dn (Pout l out) to r y = r := by
  unfold midV
  split
  · exact Iff.rfl
  · rename_i h
    constructor
    · intro h2
      split at h2 <;> omega
    · intro h2
      omega

open Classical in
theorem midV_succ {h : Hop} (hi : l[i]? = some h) : ∀ x : Int, midV l to out r (i + 1) x = if x = h.1 ∧ midV l to out r i h.2 = r ∧ midV l to out r i h.1 < 0 ∧ h.1 ≠ out ∧ h.2 ≠ out then ((r + 1 : Nat) : Int) else midV l to out r i x := by
  intro x
  simp only [midV_eq]
  by_cases h0 : 0 ≤ Dn (Pout l out) to r x
  · have e : ∀ j, midV l to out r j x = Dn (Pout l out) to r x := fun j => by unfold midV; rw [if_pos h0]
    have hcond : ¬ (x = h.1 ∧ Dn (Pout l out) to r h.2 = r ∧ midV l to out r i h.1 < 0 ∧ h.1 ≠ out ∧ h.2 ≠ out) := by
      rintro ⟨h1, _, h2, _⟩
      rw [← h1, e i] at h2
      omega
    rw [if_neg hcond, e (i + 1), e i]
  · have e : ∀ j, midV l to out r j x = if ∃ (j' : Nat) (h : Hop), j' < j ∧ l[j']? = some h ∧ h.1 = x ∧ h.1 ≠ out ∧ h.2 ≠ out ∧ Dn (Pout l out) to r h.2 = r then ((r + 1 : Nat) : Int) else -1 := fun j => by
      unfold midV; rw [if_neg h0]
    by_cases hold : ∃ (j' : Nat) (h : Hop), j' < i ∧ l[j']? = some h ∧ h.1 = x ∧ h.1 ≠ out ∧ h.2 ≠ out ∧ Dn (Pout l out) to r h.2 = r
    · have hnew : ∃ (j' : Nat) (h : Hop), j' < i + 1 ∧ l[j']? = some h ∧ h.1 = x ∧ h.1 ≠ out ∧ h.2 ≠ out ∧ Dn (Pout l out) to r h.2 = r := by
        obtain ⟨j, q, hj, hq⟩ := hold
        exact ⟨j, q, by omega, hq⟩
      rw [e (i + 1), e i, if_pos hold, if_pos hnew]
      split <;> rfl
    · by_cases hc : x = h.1 ∧ Dn (Pout l out) to r h.2 = r ∧ h.1 ≠ out ∧ h.2 ≠ out
      · have hnew : ∃ (j' : Nat) (h : Hop), j' < i + 1 ∧ l[j']? = some h ∧ h.1 = x ∧ h.1 ≠ out ∧ h.2 ≠ out ∧ Dn (Pout l out) to r h.2 = r := ⟨i, h, by omega, hi, hc.1.symm, hc.2.2.1, hc.2.2.2, hc.2.1⟩
        have hcond : x = h.1 ∧ Dn (Pout l out) to r h.2 = r ∧ midV l to out r i h.1 < 0 ∧ h.1 ≠ out ∧ h.2 ≠ out := ⟨hc.1, hc.2.1, by rw [← hc.1, e i, if_neg hold]; omega, hc.2.2⟩
        rw [e (i + 1), if_pos hnew, if_pos hcond]
      · have hnew : ¬ ∃ (j' : Nat) (h : Hop), j' < i + 1 ∧ l[j']? = some h ∧ h.1 = x ∧ h.1 ≠ out ∧ h.2 ≠ out ∧ Dn (Pout l out) to r h.2 = r := by
          rintro ⟨j, q, hj, hq, q1, q2, q3, q4⟩
          by_cases hji : j = i
          · subst hji
            rw [hi] at hq
            cases hq
            exact hc ⟨q1.symm, q4, q2, q3⟩
          · exact hold ⟨j, q, by omega, hq, q1, q2, q3, q4⟩
        have hcond : ¬ (x = h.1 ∧ Dn (Pout l out) to r h.2 = r ∧ midV l to out r i h.1 < 0 ∧ h.1 ≠ out ∧ h.2 ≠ out) := by
          rintro ⟨h1, h2, _, h3, h4⟩
          exact hc ⟨h1, h2, h3, h4⟩
        rw [e (i + 1), if_neg hnew, if_neg hcond, e i, if_neg hold]
end
end Go.Proofs.Ytdplmjlbkaipiaa.Ev
