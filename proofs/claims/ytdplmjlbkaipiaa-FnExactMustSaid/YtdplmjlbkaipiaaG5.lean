/- A way from realm to realm: plain. -/
import Derived.Test.YtdplmjlbkaipiaaG4
import Derived.Test.YtdplmjlbkaipiaaH3
namespace Go.Proofs.Ytdplmjlbkaipiaa.Ev
set_option linter.all false
open Go

theorem Pout_neg {l : List Hop} (hin : ∀ h ∈ l, inR h.1 = true ∧ inR h.2 = true) : Pout l (-1) = (· ∈ l) := by
  funext h
  refine propext ⟨fun q => q.1, fun q => ⟨q, ?_⟩⟩
  have := hin h q
  simp [inR] at this
  constructor <;> omega

/-- Is that realm next? -/
def NextTo (l : List Hop) (to x : Int) (n : Nat) (y : Int) : Prop := (x, y) ∈ l ∧ Dn (· ∈ l) to 8 y = (n : Int)
/-- The least realm from some one on that is next; -1 if there is none. -/
def LeastFrom (Q : Int → Prop) (a : Nat) (v : Int) : Prop := (v = -1 ∧ ∀ y : Nat, a ≤ y → y < 8 → ¬ Q y) ∨ ∃ z : Nat, v = z ∧ a ≤ z ∧ z < 8 ∧ Q z ∧ ∀ y : Nat, a ≤ y → y < z → ¬ Q y

theorem LeastFrom.start (Q : Int → Prop) : LeastFrom Q 8 (-1) := .inl ⟨rfl, fun y h1 h2 => by omega⟩
theorem LeastFrom.yes {Q : Int → Prop} {a : Nat} (ha : a < 8) (h : Q a) : LeastFrom Q a a := .inr ⟨a, rfl, Nat.le_refl _, ha, h, fun y h1 h2 => by omega⟩
theorem LeastFrom.no {Q : Int → Prop} {a : Nat} {v : Int} (h : LeastFrom Q (a + 1) v) (hq : ¬ Q a) : LeastFrom Q a v := by
  rcases h with ⟨rfl, h⟩ | ⟨z, rfl, h1, h2, h3, h4⟩
  · refine .inl ⟨rfl, fun y h1 h2 => ?_⟩
    by_cases e : y = a
    · subst e; exact hq
    · exact h y (by omega) h2
  · refine .inr ⟨z, rfl, by omega, h2, h3, fun y h5 h6 => ?_⟩
    by_cases e : y = a
    · subst e; exact hq
    · exact h4 y (by omega) h6
theorem LeastFrom.unique {Q : Int → Prop} {a : Nat} {v w : Int} (h : LeastFrom Q a v) (k : LeastFrom Q a w) : v = w := by
  rcases h with ⟨rfl, h⟩ | ⟨z, rfl, h1, h2, h3, h4⟩ <;> rcases k with ⟨rfl, k⟩ | ⟨y, rfl, k1, k2, k3, k4⟩
  · rfl
  · exact absurd k3 (h y k1 k2)
  · exact absurd h3 (k z h1 h2)
  · rcases Nat.lt_trichotomy z y with e | e | e
    · exact absurd h3 (k4 z h1 e)
    · rw [e]
    · exact absurd k3 (h4 y k1 e)

open Classical in
noncomputable def nxt (l : List Hop) (to x : Int) (n : Nat) : Int := if h : ∃ v, LeastFrom (NextTo l to x n) 0 v then Classical.choose h else -1
theorem nxt_eq {l : List Hop} {to x v : Int} {n : Nat} (h : LeastFrom (NextTo l to x n) 0 v) : nxt l to x n = v := by
  unfold nxt
  rw [dif_pos ⟨v, h⟩]
  exact (Classical.choose_spec (⟨v, h⟩ : ∃ v, LeastFrom (NextTo l to x n) 0 v)).unique h

noncomputable def wayL (l : List Hop) (to : Int) : Nat → Int → List Int
  | 0, x => [x]
  | n + 1, x => x :: wayL l to n (nxt l to x n)

/-- Where a realm has another one next, the least is a realm. -/
theorem least_some {l : List Hop} (hin : ∀ h ∈ l, inR h.1 = true ∧ inR h.2 = true) {to x v : Int} {n : Nat} (hd : Dn (· ∈ l) to 8 x = ((n + 1 : Nat) : Int)) (h : LeastFrom (NextTo l to x n) 0 v) : inR v = true ∧ Dn (· ∈ l) to 8 v = (n : Int) := by
  rcases h with ⟨rfl, h⟩ | ⟨z, rfl, h1, h2, h3, h4⟩
  · obtain ⟨y, hy, hd2⟩ := Dn.nearer hd
    have hr := (hin _ hy).2
    simp [inR] at hr
    obtain ⟨k, rfl⟩ : ∃ k : Nat, y = k := ⟨y.toNat, by omega⟩
    exact absurd ⟨hy, hd2⟩ (h k (by omega) (by omega))
  · exact ⟨by simp [inR]; omega, h3.2⟩

theorem Dn_zero {P : Hop → Prop} {to x : Int} {k : Nat} (h : Dn P to k x = 0) : x = to := by
  rcases Dn.cases (P := P) (to := to) k x with ⟨h2, _⟩ | ⟨n, h2, _, hr, _⟩
  · omega
  · have : n = 0 := by omega
    subst this
    exact hr
theorem Dn_self {P : Hop → Prop} {to : Int} {k : Nat} : Dn P to k to = 0 := by
  rcases Dn.cases (P := P) (to := to) k to with ⟨h2, h3⟩ | ⟨n, h2, _, hr, hm⟩
  · exact absurd ((show Rn P 0 to to from rfl).mono (Nat.zero_le k)) h3
  · by_cases hn : n = 0
    · rw [h2, hn]; rfl
    · exact absurd (show Rn P 0 to to from rfl) (hm 0 (by omega))

open Classical in
noncomputable def routeL (l : List Hop) (fr to : Int) : List Int :=
  if hopsOk l = true ∧ inR fr = true ∧ inR to = true ∧ 0 ≤ Dn (· ∈ l) to 8 fr then wayL l to (Dn (· ∈ l) to 8 fr).toNat fr else []

theorem hopsOk_in {l : List Hop} (h : hopsOk l = true) : l.length ≤ 30 ∧ ∀ h ∈ l, inR h.1 = true ∧ inR h.2 = true := by
  have := (show l.length ≤ 30 ∧ ∀ i, HopIn l i by simpa [hopsOk] using h)
  refine ⟨this.1, fun h hh => ?_⟩
  obtain ⟨i, hi⟩ := List.getElem?_of_mem hh
  have := this.2 i h hi
  exact ⟨this.1, this.2.1⟩
end Go.Proofs.Ytdplmjlbkaipiaa.Ev
