/- How far one realm is from another: plain, with no program in sight. -/
import Derived.Test.YtdplmjlbkaipiaaH1
namespace Go.Proofs.Ytdplmjlbkaipiaa.Ev
set_option linter.all false
open Go

/-- A way of at most so many hops. -/
def Rn (P : Hop → Prop) : Nat → Int → Int → Prop
  | 0, a, b => a = b
  | n + 1, a, b => Rn P n a b ∨ ∃ c, Rn P n a c ∧ P (c, b)

variable {P : Hop → Prop}

theorem Rn.mono {n k : Nat} (h : n ≤ k) {a b : Int} (hr : Rn P n a b) : Rn P k a b := by
  induction k with
  | zero =>
    have : n = 0 := by omega
    subst this
    exact hr
  | succ k ih =>
    by_cases hk : n = k + 1
    · subst hk; exact hr
    · exact .inl (ih (by omega))

theorem Rn.head : ∀ {n : Nat} {a b : Int}, Rn P (n + 1) a b ↔ Rn P n a b ∨ ∃ c, P (a, c) ∧ Rn P n c b
  | 0, a, b => by
    constructor
    · rintro (h | ⟨c, h, hp⟩)
      · exact .inl h
      · have h : a = c := h
        subst h
        exact .inr ⟨b, hp, rfl⟩
    · rintro (h | ⟨c, hp, h⟩)
      · exact .inl h
      · have h : c = b := h
        subst h
        exact .inr ⟨a, rfl, hp⟩
  | n + 1, a, b => by
    constructor
    · rintro (h | ⟨c, h, hp⟩)
      · exact .inl h
      · rcases Rn.head.1 h with h | ⟨d, hd, h⟩
        · exact .inl (.inr ⟨c, h, hp⟩)
        · exact .inr ⟨d, hd, .inr ⟨c, h, hp⟩⟩
    · rintro (h | ⟨c, hp, h⟩)
      · exact .inl h
      · rcases h with h | ⟨d, h, hd⟩
        · exact .inl (Rn.head.2 (.inr ⟨c, hp, h⟩))
        · exact .inr ⟨d, Rn.head.2 (.inr ⟨c, hp, h⟩), hd⟩

open Classical in
/-- How far, if not farther than so many hops; else -1. -/
noncomputable def Dn (P : Hop → Prop) (to : Int) : Nat → Int → Int
  | 0, x => if x = to then 0 else -1
  | k + 1, x => if 0 ≤ Dn P to k x then Dn P to k x else if Rn P (k + 1) x to then (k + 1 : Nat) else -1

variable {to : Int}

theorem Dn.cases : ∀ (k : Nat) (x : Int), (Dn P to k x = -1 ∧ ¬ Rn P k x to) ∨ ∃ n : Nat, Dn P to k x = n ∧ n ≤ k ∧ Rn P n x to ∧ ∀ j, j < n → ¬ Rn P j x to
  | 0, x => by
    unfold Dn
    split
    · rename_i h; exact .inr ⟨0, rfl, Nat.le_refl _, h, fun j hj => by omega⟩
    · rename_i h; exact .inl ⟨rfl, h⟩
  | k + 1, x => by
    unfold Dn
    rcases Dn.cases k x with ⟨h, hn⟩ | ⟨n, h, hk, hr, hm⟩
    · rw [h, if_neg (by omega)]
      split
      · rename_i hr; exact .inr ⟨k + 1, rfl, Nat.le_refl _, hr, fun j hj hj2 => hn (hj2.mono (by omega))⟩
      · rename_i hr; exact .inl ⟨rfl, hr⟩
    · rw [h, if_pos (by omega)]
      exact .inr ⟨n, rfl, by omega, hr, hm⟩

theorem Dn.nonneg {k : Nat} {x : Int} : 0 ≤ Dn P to k x ↔ Rn P k x to := by
  rcases Dn.cases (P := P) (to := to) k x with ⟨h, hn⟩ | ⟨n, h, hk, hr, hm⟩
  · rw [h]; exact ⟨fun h => by omega, fun h => absurd h hn⟩
  · rw [h]; exact ⟨fun _ => hr.mono hk, fun _ => by omega⟩

open Classical in
theorem Dn.step {k : Nat} {x : Int} : Dn P to (k + 1) x = if 0 ≤ Dn P to k x then Dn P to k x else if ∃ y, P (x, y) ∧ Dn P to k y = (k : Int) then ((k + 1 : Nat) : Int) else -1 := by
  rw [Dn]
  by_cases h0 : 0 ≤ Dn P to k x
  · rw [if_pos h0, if_pos h0]
  · rw [if_neg h0, if_neg h0]
    have hn : ¬ Rn P k x to := fun h => h0 (Dn.nonneg.2 h)
    have : Rn P (k + 1) x to ↔ ∃ y, P (x, y) ∧ Dn P to k y = (k : Int) := by
      rw [Rn.head]
      constructor
      · rintro (h | ⟨c, hp, h⟩)
        · exact absurd h hn
        · refine ⟨c, hp, ?_⟩
          rcases Dn.cases (P := P) (to := to) k c with ⟨_, h2⟩ | ⟨n, h2, hk, hr, _⟩
          · exact absurd h h2
          · by_cases hnk : n = k
            · rw [h2, hnk]
            · exact absurd ((Rn.head.2 (.inr ⟨c, hp, hr⟩) : Rn P (n + 1) x to).mono (by omega)) hn
      · rintro ⟨c, hp, h⟩
        exact .inr ⟨c, hp, Dn.nonneg.1 (by rw [h]; omega)⟩
    by_cases h : Rn P (k + 1) x to
    · rw [if_pos h, if_pos (this.1 h)]
    · rw [if_neg h, if_neg (fun h2 => h (this.2 h2))]

theorem Dn.le {k : Nat} {x : Int} : Dn P to k x ≤ k := by
  rcases Dn.cases (P := P) (to := to) k x with ⟨h, _⟩ | ⟨n, h, hk, _⟩ <;> rw [h] <;> omega

/-- One hop nearer. -/
theorem Dn.nearer {k : Nat} {x : Int} {n : Nat} (h : Dn P to k x = ((n + 1 : Nat) : Int)) : ∃ y, P (x, y) ∧ Dn P to k y = (n : Int) := by
  rcases Dn.cases (P := P) (to := to) k x with ⟨h2, _⟩ | ⟨m, h2, hk, hr, hm⟩
  · rw [h2] at h; omega
  · have hmn : m = n + 1 := by rw [h2] at h; omega
    subst hmn
    rcases Rn.head.1 hr with hr | ⟨c, hp, hr⟩
    · exact absurd hr (hm n (by omega))
    · refine ⟨c, hp, ?_⟩
      rcases Dn.cases (P := P) (to := to) k c with ⟨_, h3⟩ | ⟨j, h3, hj, hr2, hm2⟩
      · exact absurd (hr.mono (by omega)) h3
      · have h4 : j ≤ n := by
          rcases Nat.lt_or_ge n j with h5 | h5
          · exact absurd hr (hm2 n h5)
          · exact h5
        have h5 : n ≤ j := by
          rcases Nat.lt_or_ge j n with h6 | h6
          · exact absurd (Rn.head.2 (.inr ⟨c, hp, hr2⟩)) (hm (j + 1) (by omega))
          · exact h6
        rw [h3]
        omega
end Go.Proofs.Ytdplmjlbkaipiaa.Ev
