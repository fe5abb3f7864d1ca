/- Texts of this proof, laid one behind the other: what each shows stands at its head. -/
import Derived.Test.YtglboiahgpfjdaaGreatB3
import Derived.Test.YtglboiahgpfjdaaGreatB6
/- Who was asked most; the law Busiest. -/
namespace Go.Proofs.YtglboiahgpfjdaaGreat.Ev
set_option linter.all false
open Go
set_option maxRecDepth 4000

def sc (q : Int) (l : List Acp) : Int := ((l.countP fun a => decide (a.sv = q) : Nat) : Int)
theorem sc_le {q : Int} {l : List Acp} : 0 ≤ sc q l ∧ sc q l ≤ l.length := by
  unfold sc
  have := List.countP_le_length (p := fun e : Acp => decide (e.sv = q)) (l := l)
  omega
theorem sc_yes {q : Int} {l : List Acp} {i : Nat} (h : i < l.length) (h2 : l[i].sv = q) : sc q (l.take (i + 1)) = sc q (l.take i) + 1 := by
  unfold sc
  rw [List.take_succ_eq_append_getElem h, List.countP_append]
  simp [h2]
theorem sc_no {q : Int} {l : List Acp} {i : Nat} (h : i < l.length) (h2 : ¬ l[i].sv = q) : sc q (l.take (i + 1)) = sc q (l.take i) := by
  unfold sc
  rw [List.take_succ_eq_append_getElem h, List.countP_append]
  simp [h2]
theorem sc_pos {l : List Acp} {i : Nat} (h : i < l.length) : 0 < sc l[i].sv l := by
  unfold sc
  have : 0 < l.countP fun a => decide (a.sv = l[i].sv) := List.countP_pos_iff.2 ⟨_, List.getElem_mem h, by simp⟩
  omega
theorem sc_zero {q : Int} {l : List Acp} (h : ∀ i, (hi : i < l.length) → l[i].sv ≠ q) : sc q l = 0 := by
  unfold sc
  have : (l.countP fun a => decide (a.sv = q)) = 0 := List.countP_eq_zero.2 fun a ha => by
    obtain ⟨i, hi, rfl⟩ := List.getElem_of_mem ha
    simpa using h i hi
  omega
def b2I (c0 c1 : Int) : Int := if c1 > c0 then 1 else 0
def bzI (c0 c1 c2 : Int) : Int := if c2 > (if c1 > c0 then c1 else c0) then 2 else b2I c0 c1
noncomputable def bz (w : Wd) : Int := if wdOk w = true ∧ 0 < w.acs.length then bzI (sc 0 w.acs) (sc 1 w.acs) (sc 2 w.acs) else -1
theorem bz_no {w : Wd} (h : ¬ (wdOk w = true ∧ 0 < w.acs.length)) : bz w = -1 := by unfold bz; rw [if_neg h]
theorem bz_yes {w : Wd} (h : wdOk w = true) (h2 : 0 < w.acs.length) : bz w = bzI (sc 0 w.acs) (sc 1 w.acs) (sc 2 w.acs) := by unfold bz; rw [if_pos ⟨h, h2⟩]
theorem sv_in {w : Wd} (h : wdOk w = true) {i : Nat} (hi : i < w.acs.length) : 0 ≤ w.acs[i].sv ∧ w.acs[i].sv ≤ 2 := by
  have := List.all_eq_true.1 (wd_len h).2.2.2 _ (List.getElem_mem hi)
  unfold acOk at this
  simp only [Bool.and_eq_true] at this
  exact inB_t.1 this.1
/-- The best of the first so many. -/
def BzP (l : List Acp) (i : Nat) (best most : Int) : Prop := (i = 0 ∧ best = -1 ∧ most = 0) ∨
  (0 < i ∧ 0 < most ∧ (∀ j, j < i → (h : j < l.length) → sc l[j].sv l ≤ most ∧ (sc l[j].sv l = most → best ≤ l[j].sv)) ∧ ∃ j, j < i ∧ ∃ h : j < l.length, l[j].sv = best ∧ sc best l = most)
theorem BzP.step {l : List Acp} {i : Nat} {best most : Int} (h : BzP l i best most) (hi : i < l.length) : BzP l (i + 1) (if sc l[i].sv l > most ∨ sc l[i].sv l = most ∧ l[i].sv < best then l[i].sv else best) (if sc l[i].sv l > most ∨ sc l[i].sv l = most ∧ l[i].sv < best then sc l[i].sv l else most) := by
  have hp := sc_pos hi
  right
  rcases h with ⟨rfl, rfl, rfl⟩ | ⟨h0, hm, h1, j, hj, hjl, e1, e2⟩
  · rw [if_pos (.inl hp), if_pos (.inl hp)]
    refine ⟨by omega, hp, fun j hj hjl => ?_, 0, by omega, hi, rfl, rfl⟩
    have : j = 0 := by omega
    subst this
    exact ⟨Int.le_refl _, fun _ => Int.le_refl _⟩
  · split
    · rename_i hc
      refine ⟨by omega, by omega, fun k hk hkl => ?_, i, by omega, hi, rfl, rfl⟩
      by_cases e : k = i
      · subst e; exact ⟨Int.le_refl _, fun _ => Int.le_refl _⟩
      · obtain ⟨a1, a2⟩ := h1 k (by omega) hkl
        refine ⟨by omega, fun e3 => ?_⟩
        rcases hc with hc | ⟨hc1, hc2⟩
        · omega
        · have := a2 (by omega); omega
    · rename_i hc
      refine ⟨by omega, hm, fun k hk hkl => ?_, j, by omega, hjl, e1, e2⟩
      by_cases e : k = i
      · subst e; exact ⟨by omega, fun e3 => by omega⟩
      · exact h1 k (by omega) hkl
theorem BzP.fin {w : Wd} {best most : Int} (h : BzP w.acs w.acs.length best most) (hw : wdOk w = true) : best = bz w := by
  rcases h with ⟨h0, rfl, _⟩ | ⟨h0, hm, h1, j, hj, hjl, e1, e2⟩
  · rw [bz_no (fun h => by omega)]
  · rw [bz_yes hw h0]
    have hin := sv_in hw hjl
    have any : ∀ q : Int, sc q w.acs ≤ most ∧ (sc q w.acs = most → best ≤ q) := fun q => by
      by_cases e : ∃ i, ∃ hi : i < w.acs.length, w.acs[i].sv = q
      · obtain ⟨i, hi, rfl⟩ := e
        exact h1 i hi hi
      · have := sc_zero (l := w.acs) (q := q) fun i hi e3 => e ⟨i, hi, e3⟩
        exact ⟨by omega, fun e3 => by omega⟩
    have a0 := any 0; have a1 := any 1; have a2 := any 2
    unfold bzI b2I
    rw [e1] at hin
    have hb : best = 0 ∨ best = 1 ∨ best = 2 := by omega
    rcases hb with rfl | rfl | rfl
    · rw [if_neg (by split <;> omega), if_neg (by omega)]
    · rw [if_neg (by split <;> omega), if_pos (by omega)]
    · rw [if_pos (by split <;> omega)]

theorem f15 {H : Hp} {w : Wd} {u s l p n t k a c h e x d : Value} (q : RWd H w u s l p n t k a c h e x d) (z : WdZ w) : Scal EE 15 [.agg #[u, s, l, p, .int .i64 w.cf.skew, .int .i64 w.now, .int .i64 w.fresh, n, t, k, a, c, h, e, x, d]] H (.int .i64 (bz w)) := by
  refine scal_ok rfl rfl k15 (by simp [c15]) rfl fun m hw => ?_
  have hroom := q.acs.room
  have a19 := fun {m draw s' d' ts Q} => callT_at (m := m) (draw := draw) (s := s') (d := d') (ts := ts) (Q := Q) (f19 q z)
  have V := q.vcs
  have one : IntKind.i64.wrap (0 - 1) = -1 := rfl
  simp only [go_sem, ↓reduceIte, Nat.reduceEqDiff, reduceCtorEq, Nat.reduceAdd, Nat.reduceLeDiff, Nat.reduceMul, c15, V]
  refine go_for w.acs.length (fun i s' => s'.H = H ∧ (∃ g, s'.ρ 1 = .bx g [u, s, l, p, .int .i64 w.cf.skew, .int .i64 w.now, .int .i64 w.fresh, n, t, k, a, c, h, e, x, d]) ∧ s'.ρ 5 = .val (.int .i64 i) ∧ ∃ best most : Int, s'.ρ 3 = .val (.int .i64 best) ∧ s'.ρ 4 = .val (.int .i64 most) ∧ (0 < i → wdOk w = true) ∧ BzP w.acs i best most)
    (fun s' => s'.H = H ∧ s'.ρ 3 = .val (.int .i64 (bz w))) ?_ ?_ ?_
  · exact ⟨rfl, ⟨_, by simp [upd, ini]; rfl⟩, by simp [upd], -1, 0, by simp [upd], by simp [upd], fun h => by omega, .inl ⟨rfl, rfl, rfl⟩⟩
  · rintro i s' hi ⟨hH, ⟨g, k1⟩, k5, best, most, k3, k4, hok, hB⟩
    simp only [go_sem, ↓reduceIte, Nat.reduceEqDiff, reduceCtorEq, Nat.reduceAdd, Nat.reduceLeDiff, Nat.reduceMul, k1, k3, k4, k5, q.acs.len]
    cases c1 : decide ((i : Int) < (w.acs.length : Int)) <;> simp only [go_sem, ↓reduceIte, Nat.reduceEqDiff, reduceCtorEq, Nat.reduceAdd, Nat.reduceLeDiff, Nat.reduceMul, k1, k3, k4, k5, c1, V, hH, a19, hw]
    · have hil : i = w.acs.length := by have := of_decide_eq_false c1; omega
      subst hil
      by_cases h0 : 0 < w.acs.length
      · rw [hB.fin (hok h0)]
      · rw [bz_no (fun h => h0 h.2)]
        rcases hB with ⟨_, rfl, _⟩ | ⟨h, _⟩
        · rfl
        · omega
    have hil : i < w.acs.length := by have := of_decide_eq_true c1; omega
    have w1 := wrap64 ((i : Int) + 1) (by omega) (by omega)
    cases q0 : wdOk w <;> simp only [go_sem, ↓reduceIte, Nat.reduceEqDiff, reduceCtorEq, Nat.reduceAdd, Nat.reduceLeDiff, Nat.reduceMul, k1, k3, k4, k5, q0, V, hH]
    · rw [bz_no (fun h => by rw [q0] at h; exact absurd h.1 (by simp))]
      rcases hB with ⟨_, rfl, _⟩ | ⟨h, _⟩
      · rfl
      · have := hok h; rw [q0] at this; cases this
    obtain ⟨id, b, o, ho, ⟨pp, pv, hr, hs1, hs2⟩, hb, hia⟩ := q.acs.elem (List.getElem?_eq_getElem hil)
    have g0 : o[b]? = some (.int .i64 w.acs[i].sv) := by simpa using getElem?_of_take hr (j := 0) (by omega)
    simp only [go_sem, ↓reduceIte, Nat.reduceEqDiff, reduceCtorEq, Nat.reduceAdd, Nat.reduceLeDiff, Nat.reduceMul, k1, k3, k4, k5, hia, hH, ho, g0]
    refine go_for w.acs.length (fun j s' => s'.H = H ∧ (∃ g, s'.ρ 1 = .bx g [u, s, l, p, .int .i64 w.cf.skew, .int .i64 w.now, .int .i64 w.fresh, n, t, k, a, c, h, e, x, d]) ∧ s'.ρ 5 = .val (.int .i64 i) ∧ s'.ρ 3 = .val (.int .i64 best) ∧ s'.ρ 4 = .val (.int .i64 most) ∧ s'.ρ 6 = .val (.int .i64 w.acs[i].sv) ∧ s'.ρ 8 = .val (.int .i64 j) ∧ s'.ρ 7 = .val (.int .i64 (sc w.acs[i].sv (w.acs.take j))))
      (fun s' => s'.H = H ∧ (∃ g, s'.ρ 1 = .bx g [u, s, l, p, .int .i64 w.cf.skew, .int .i64 w.now, .int .i64 w.fresh, n, t, k, a, c, h, e, x, d]) ∧ s'.ρ 5 = .val (.int .i64 i) ∧ s'.ρ 3 = .val (.int .i64 best) ∧ s'.ρ 4 = .val (.int .i64 most) ∧ s'.ρ 6 = .val (.int .i64 w.acs[i].sv) ∧ s'.ρ 7 = .val (.int .i64 (sc w.acs[i].sv w.acs))) ?_ ?_ ?_
    · exact ⟨rfl, ⟨_, by simp [upd, k1]; rfl⟩, by simp [upd, k5], by simp [upd, k3], by simp [upd, k4], by simp [upd], by simp [upd], by simp [upd, sc]⟩
    · rintro j s' hj ⟨hH, ⟨g, k1⟩, k5, k3, k4, k6, k8, k7⟩
      simp only [go_sem, ↓reduceIte, Nat.reduceEqDiff, reduceCtorEq, Nat.reduceAdd, Nat.reduceLeDiff, Nat.reduceMul, k1, k3, k4, k5, k6, k7, k8, q.acs.len]
      cases c2 : decide ((j : Int) < (w.acs.length : Int)) <;> simp only [go_sem, ↓reduceIte, Nat.reduceEqDiff, reduceCtorEq, Nat.reduceAdd, Nat.reduceLeDiff, Nat.reduceMul, k1, k3, k4, k5, k6, k7, k8, c2, hH]
      · rw [List.take_of_length_le (by have := of_decide_eq_false c2; omega)]
        exact ⟨⟨_, rfl⟩, rfl⟩
      have hjl : j < w.acs.length := by have := of_decide_eq_true c2; omega
      have w2 := wrap64 ((j : Int) + 1) (by omega) (by omega)
      obtain ⟨id2, b2, o2, ho2, ⟨pp2, pv2, hr2, _, _⟩, hb2, hia2⟩ := q.acs.elem (List.getElem?_eq_getElem hjl)
      have g2 : o2[b2]? = some (.int .i64 w.acs[j].sv) := by simpa using getElem?_of_take hr2 (j := 0) (by omega)
      have hsc := sc_le (q := w.acs[i].sv) (l := w.acs.take j)
      rw [List.length_take] at hsc
      have w3 := wrap64 (sc w.acs[i].sv (w.acs.take j) + 1) (by omega) (by omega)
      simp only [go_sem, ↓reduceIte, Nat.reduceEqDiff, reduceCtorEq, Nat.reduceAdd, Nat.reduceLeDiff, Nat.reduceMul, k1, k3, k4, k5, k6, k7, k8, hia2, hH, ho2, g2]
      cases q3 : decide (w.acs[j].sv = w.acs[i].sv) <;> simp only [go_sem, ↓reduceIte, Nat.reduceEqDiff, reduceCtorEq, Nat.reduceAdd, Nat.reduceLeDiff, Nat.reduceMul, k1, k3, k4, k5, k6, k7, k8, q3, w2, w3, hH]
      · rw [sc_no hjl (of_decide_eq_false q3)]
        exact ⟨hjl, ⟨_, rfl⟩, by simp, rfl⟩
      · rw [sc_yes hjl (of_decide_eq_true q3)]
        exact ⟨hjl, ⟨_, rfl⟩, by simp, rfl⟩
    · rintro s' ⟨hH, ⟨g, k1⟩, k5, k3, k4, k6, k7⟩
      have hst := hB.step hil
      simp only [go_sem, ↓reduceIte, Nat.reduceEqDiff, reduceCtorEq, Nat.reduceAdd, Nat.reduceLeDiff, Nat.reduceMul, k1, k3, k4, k5, k6, k7]
      cases q4 : decide (sc w.acs[i].sv w.acs > most) <;> simp only [go_sem, ↓reduceIte, Nat.reduceEqDiff, reduceCtorEq, Nat.reduceAdd, Nat.reduceLeDiff, Nat.reduceMul, k1, k3, k4, k5, k6, k7, q4]
      · have n4 := of_decide_eq_false q4
        cases q5 : decide (sc w.acs[i].sv w.acs = most) <;> simp only [go_sem, ↓reduceIte, Nat.reduceEqDiff, reduceCtorEq, Nat.reduceAdd, Nat.reduceLeDiff, Nat.reduceMul, k1, k3, k4, k5, k6, k7, q5, w1, hH]
        · have n5 := of_decide_eq_false q5
          rw [if_neg (by omega), if_neg (by omega)] at hst
          exact ⟨hil, ⟨_, rfl⟩, by simp, best, most, rfl, rfl, hst⟩
        · have n5 := of_decide_eq_true q5
          cases q6 : decide (w.acs[i].sv < best) <;> simp only [go_sem, ↓reduceIte, Nat.reduceEqDiff, reduceCtorEq, Nat.reduceAdd, Nat.reduceLeDiff, Nat.reduceMul, k1, k3, k4, k5, k6, k7, q6, w1, hH]
          · have n6 := of_decide_eq_false q6
            rw [if_neg (by omega), if_neg (by omega)] at hst
            exact ⟨hil, ⟨_, rfl⟩, by simp, best, most, rfl, rfl, hst⟩
          · have n6 := of_decide_eq_true q6
            rw [if_pos (by omega), if_pos (by omega)] at hst
            exact ⟨hil, ⟨_, rfl⟩, by simp, _, _, rfl, rfl, hst⟩
      · have n4 := of_decide_eq_true q4
        simp only [go_sem, ↓reduceIte, Nat.reduceEqDiff, reduceCtorEq, Nat.reduceAdd, Nat.reduceLeDiff, Nat.reduceMul, k1, k3, k4, k5, k6, k7, w1, hH]
        rw [if_pos (by omega), if_pos (by omega)] at hst
        exact ⟨hil, ⟨_, rfl⟩, by simp, _, _, rfl, rfl, hst⟩
  · rintro s' ⟨hH, k3⟩
    simp only [go_sem, ↓reduceIte, Nat.reduceEqDiff, reduceCtorEq, Nat.reduceAdd, Nat.reduceLeDiff, Nat.reduceMul, k3, hH]

theorem iadrA_bx {len t g : Nat} {cs : List Value} (j : Nat) (hj : j < len) : ∀ (s : St) (y : X), s.ρ t = .bx g cs → exv s.ρ y = some (.int .i64 (j : Int)) → iadrAK s len 1 (.t t) y = some (.vp t g j, s) := fun s y h1 h2 => by
  unfold iadrAK
  rw [h2]
  simp only [adr, ex, h1, Ad.live, decide_true, true_and]
  rw [if_pos (by omega)]
  simp [Ad.fv]
theorem idxA_at {n : Nat} {cs : Array Value} {v : Value} (j : Nat) (hj : j < n) (hc : cs[j]? = some v) : ∀ (s : St) (x y : X), exv s.ρ x = some (.agg cs) → exv s.ρ y = some (.int .i64 (j : Int)) → idxAK s n x y = some (.val v, s) := fun s x y h1 h2 => by
  unfold idxAK
  rw [h1, h2]
  simp only
  rw [if_pos (by omega)]
  simp [hc, ofV]
def bsI (c0 c1 c2 : Int) : Nat → Int
  | 0 => 0
  | 1 => 0
  | 2 => b2I c0 c1
  | _ => bzI c0 c1 c2
theorem f16 {H : Hp} {w : Wd} {u s l p n t k a c h e x d : Value} (q : RWd H w u s l p n t k a c h e x d) (z : WdZ w) : Scal EE 16 [.agg #[u, s, l, p, .int .i64 w.cf.skew, .int .i64 w.now, .int .i64 w.fresh, n, t, k, a, c, h, e, x, d]] H (.int .i64 (bz w)) := by
  refine scal_ok rfl rfl k16 (by simp [c16]) rfl fun m hw => ?_
  have hroom := q.acs.room
  have a38 := fun {m draw s' d' ts Q} => callT_at (m := m) (draw := draw) (s := s') (d := d') (ts := ts) (Q := Q) (f38 q z)
  have V := q.vcs
  simp only [go_sem, ↓reduceIte, Nat.reduceEqDiff, reduceCtorEq, Nat.reduceAdd, Nat.reduceLeDiff, Nat.reduceMul, c16, a38, hw, V]
  cases q0 : wdOk w <;> simp only [go_sem, ↓reduceIte, Nat.reduceEqDiff, reduceCtorEq, Nat.reduceAdd, Nat.reduceLeDiff, Nat.reduceMul, q0, V, q.acs.len]
  · rw [bz_no (fun h => by rw [q0] at h; exact absurd h.1 (by simp))]
  cases q1 : decide ((w.acs.length : Int) = 0) <;> simp only [go_sem, ↓reduceIte, Nat.reduceEqDiff, reduceCtorEq, Nat.reduceAdd, Nat.reduceLeDiff, Nat.reduceMul, q1, q.acs.len]
  rotate_left
  · rw [bz_no (fun h => by have := of_decide_eq_true q1; omega)]
  have h0 : 0 < w.acs.length := by have := of_decide_eq_false q1; omega
  rw [bz_yes q0 h0]
  refine go_for w.acs.length (fun i s' => s'.H = H ∧ (∃ g, s'.ρ 3 = .bx g [.int .i64 (sc 0 (w.acs.take i)), .int .i64 (sc 1 (w.acs.take i)), .int .i64 (sc 2 (w.acs.take i))]) ∧ s'.ρ 19 = .val x ∧ s'.ρ 20 = .val (.int .i64 w.acs.length) ∧ s'.ρ 21 = .val (.int .i64 i))
    (fun s' => s'.H = H ∧ ∃ g, s'.ρ 3 = .bx g [.int .i64 (sc 0 w.acs), .int .i64 (sc 1 w.acs), .int .i64 (sc 2 w.acs)]) ?_ ?_ ?_
  · exact ⟨rfl, ⟨_, by simp [upd, ini, sc]; rfl⟩, by simp [upd], by simp [upd], by simp [upd]⟩
  · rintro i s' hi ⟨hH, ⟨g, k3⟩, k19, k20, k21⟩
    simp only [go_sem, ↓reduceIte, Nat.reduceEqDiff, reduceCtorEq, Nat.reduceAdd, Nat.reduceLeDiff, Nat.reduceMul, k3, k19, k20, k21]
    cases c1 : decide ((i : Int) < (w.acs.length : Int)) <;> simp only [go_sem, ↓reduceIte, Nat.reduceEqDiff, reduceCtorEq, Nat.reduceAdd, Nat.reduceLeDiff, Nat.reduceMul, k3, k19, k20, k21, c1]
    · rw [List.take_of_length_le (by have := of_decide_eq_false c1; omega)]
      exact ⟨hH, ⟨_, rfl⟩⟩
    have hil : i < w.acs.length := by have := of_decide_eq_true c1; omega
    have w1 := wrap64 ((i : Int) + 1) (by omega) (by omega)
    obtain ⟨id, b, o, ho, ⟨pp, pv, hr, hs1, hs2⟩, hb, hia⟩ := q.acs.elem (List.getElem?_eq_getElem hil)
    have hin := sv_in q0 hil
    have b0 := sc_le (q := 0) (l := w.acs.take i); have b1 := sc_le (q := 1) (l := w.acs.take i); have b2 := sc_le (q := 2) (l := w.acs.take i)
    rw [List.length_take] at b0 b1 b2
    have x0 := wrap64 (sc 0 (w.acs.take i) + 1) (by omega) (by omega)
    have x1 := wrap64 (sc 1 (w.acs.take i) + 1) (by omega) (by omega)
    have x2 := wrap64 (sc 2 (w.acs.take i) + 1) (by omega) (by omega)
    have hv : w.acs[i].sv = 0 ∨ w.acs[i].sv = 1 ∨ w.acs[i].sv = 2 := by omega
    simp only [go_sem, ↓reduceIte, Nat.reduceEqDiff, reduceCtorEq, Nat.reduceAdd, Nat.reduceLeDiff, Nat.reduceMul, k3, k19, k20, k21, hia, hH, ho, hr, hb]
    rcases hv with hv | hv | hv
    · have hb0 := iadrA_bx (len := 3) (t := 3) (g := g) (cs := [.int .i64 (sc 0 (w.acs.take i)), .int .i64 (sc 1 (w.acs.take i)), .int .i64 (sc 2 (w.acs.take i))]) 0 (by decide)
      have hv' : w.acs[i].sv = ((0 : Nat) : Int) := hv
      simp only [go_sem, ↓reduceIte, Nat.reduceEqDiff, reduceCtorEq, Nat.reduceAdd, Nat.reduceLeDiff, Nat.reduceMul, hv', k3, k19, k20, k21, hb0, x0, w1]
      rw [sc_yes (q := 0) hil hv, sc_no (q := 1) hil (by omega), sc_no (q := 2) hil (by omega)]
      exact ⟨hil, ⟨_, rfl⟩, by simp⟩
    · have hb0 := iadrA_bx (len := 3) (t := 3) (g := g) (cs := [.int .i64 (sc 0 (w.acs.take i)), .int .i64 (sc 1 (w.acs.take i)), .int .i64 (sc 2 (w.acs.take i))]) 1 (by decide)
      have hv' : w.acs[i].sv = ((1 : Nat) : Int) := hv
      simp only [go_sem, ↓reduceIte, Nat.reduceEqDiff, reduceCtorEq, Nat.reduceAdd, Nat.reduceLeDiff, Nat.reduceMul, hv', k3, k19, k20, k21, hb0, x1, w1]
      rw [sc_no (q := 0) hil (by omega), sc_yes (q := 1) hil hv, sc_no (q := 2) hil (by omega)]
      exact ⟨hil, ⟨_, rfl⟩, by simp⟩
    · have hb0 := iadrA_bx (len := 3) (t := 3) (g := g) (cs := [.int .i64 (sc 0 (w.acs.take i)), .int .i64 (sc 1 (w.acs.take i)), .int .i64 (sc 2 (w.acs.take i))]) 2 (by decide)
      have hv' : w.acs[i].sv = ((2 : Nat) : Int) := hv
      simp only [go_sem, ↓reduceIte, Nat.reduceEqDiff, reduceCtorEq, Nat.reduceAdd, Nat.reduceLeDiff, Nat.reduceMul, hv', k3, k19, k20, k21, hb0, x2, w1]
      rw [sc_no (q := 0) hil (by omega), sc_no (q := 1) hil (by omega), sc_yes (q := 2) hil hv]
      exact ⟨hil, ⟨_, rfl⟩, by simp⟩
  rintro s' ⟨hH, ⟨g, k3⟩⟩
  generalize sc 0 w.acs = c0 at *
  generalize sc 1 w.acs = c1 at *
  generalize sc 2 w.acs = c2 at *
  simp only [go_sem, ↓reduceIte, Nat.reduceEqDiff, reduceCtorEq, Nat.reduceAdd, Nat.reduceLeDiff, Nat.reduceMul, k3, hH]
  have h0 := iadrA_bx (len := 3) (t := 3) (g := g) (cs := [.int .i64 c0, .int .i64 c1, .int .i64 c2]) 0 (by decide)
  have h1 := iadrA_bx (len := 3) (t := 3) (g := g) (cs := [.int .i64 c0, .int .i64 c1, .int .i64 c2]) 1 (by decide)
  have i0 := idxA_at (n := 3) (cs := #[.int .i64 c0, .int .i64 c1, .int .i64 c2]) (v := .int .i64 c0) 0 (by decide) rfl
  have i1 := idxA_at (n := 3) (cs := #[.int .i64 c0, .int .i64 c1, .int .i64 c2]) (v := .int .i64 c1) 1 (by decide) rfl
  have i2 := idxA_at (n := 3) (cs := #[.int .i64 c0, .int .i64 c1, .int .i64 c2]) (v := .int .i64 c2) 2 (by decide) rfl
  have z0 : ((0 : Nat) : Int) = 0 := rfl
  have z1 : ((1 : Nat) : Int) = 1 := rfl
  have z2 : ((2 : Nat) : Int) = 2 := rfl
  rw [z0] at h0 i0
  rw [z1] at h1 i1
  rw [z2] at i2
  have l0 : decide ((0 : Int) < 3) = true := rfl
  have l1 : decide ((1 : Int) < 3) = true := rfl
  have l2 : decide ((2 : Int) < 3) = true := rfl
  have l3 : decide ((3 : Int) < 3) = false := rfl
  have p0 : IntKind.i64.wrap (0 + 1) = 1 := rfl
  have p1 : IntKind.i64.wrap (1 + 1) = 2 := rfl
  have p2 : IntKind.i64.wrap (2 + 1) = 3 := rfl
  refine go_for 3 (fun i s' => s'.H = H ∧ s'.ρ 3 = .bx g [.int .i64 c0, .int .i64 c1, .int .i64 c2] ∧ s'.ρ 32 = .val (.agg #[.int .i64 c0, .int .i64 c1, .int .i64 c2]) ∧ s'.ρ 33 = .val (.int .i64 i) ∧ s'.ρ 6 = .val (.int .i64 (bsI c0 c1 c2 i)))
    (fun s' => s'.H = H ∧ s'.ρ 6 = .val (.int .i64 (bzI c0 c1 c2))) ?_ ?_ ?_
  · exact ⟨rfl, by simp [upd, k3], by simp [upd], by simp [upd], by simp [upd, bsI]⟩
  · rintro i s' hi ⟨hH, k3, k32, k33, k6⟩
    have hi4 : i = 0 ∨ i = 1 ∨ i = 2 ∨ i = 3 := by omega
    rcases hi4 with rfl | rfl | rfl | rfl
    · have k33 : s'.ρ 33 = .val (.int .i64 0) := k33
      have k6 : s'.ρ 6 = .val (.int .i64 0) := k6
      simp only [go_sem, ↓reduceIte, Nat.reduceEqDiff, reduceCtorEq, Nat.reduceAdd, Nat.reduceLeDiff, Nat.reduceMul, k3, k32, k33, k6, hH, l0, i0, h0]
      have : decide (c0 > c0) = false := decide_eq_false (by omega)
      simp only [go_sem, ↓reduceIte, Nat.reduceEqDiff, reduceCtorEq, Nat.reduceAdd, Nat.reduceLeDiff, Nat.reduceMul, k3, k32, k33, k6, hH, this, p0]
      exact ⟨by omega, rfl, rfl⟩
    · have k33 : s'.ρ 33 = .val (.int .i64 1) := k33
      have k6 : s'.ρ 6 = .val (.int .i64 0) := k6
      simp only [go_sem, ↓reduceIte, Nat.reduceEqDiff, reduceCtorEq, Nat.reduceAdd, Nat.reduceLeDiff, Nat.reduceMul, k3, k32, k33, k6, hH, l1, i1, h0]
      cases q5 : decide (c1 > c0) <;> simp only [go_sem, ↓reduceIte, Nat.reduceEqDiff, reduceCtorEq, Nat.reduceAdd, Nat.reduceLeDiff, Nat.reduceMul, k3, k32, k33, k6, hH, q5, p1]
      · have : bsI c0 c1 c2 (1 + 1) = 0 := by show b2I c0 c1 = 0; unfold b2I; rw [if_neg (of_decide_eq_false q5)]
        rw [this]
        exact ⟨by omega, rfl, rfl⟩
      · have : bsI c0 c1 c2 (1 + 1) = 1 := by show b2I c0 c1 = 1; unfold b2I; rw [if_pos (of_decide_eq_true q5)]
        rw [this]
        exact ⟨by omega, rfl, rfl⟩
    · have k33 : s'.ρ 33 = .val (.int .i64 2) := k33
      have k6 : s'.ρ 6 = .val (.int .i64 (b2I c0 c1)) := k6
      have e3 : bsI c0 c1 c2 (2 + 1) = bzI c0 c1 c2 := rfl
      cases q5 : decide (c1 > c0)
      · have eb : b2I c0 c1 = 0 := by unfold b2I; rw [if_neg (of_decide_eq_false q5)]
        rw [eb] at k6
        simp only [go_sem, ↓reduceIte, Nat.reduceEqDiff, reduceCtorEq, Nat.reduceAdd, Nat.reduceLeDiff, Nat.reduceMul, k3, k32, k33, k6, hH, l2, i2, h0]
        cases q6 : decide (c2 > c0) <;> simp only [go_sem, ↓reduceIte, Nat.reduceEqDiff, reduceCtorEq, Nat.reduceAdd, Nat.reduceLeDiff, Nat.reduceMul, k3, k32, k33, k6, hH, q6, p2]
        · rw [e3, show bzI c0 c1 c2 = 0 by unfold bzI; rw [if_neg (of_decide_eq_false q5), if_neg (of_decide_eq_false q6), eb]]
          exact ⟨by omega, rfl, rfl⟩
        · rw [e3, show bzI c0 c1 c2 = 2 by unfold bzI; rw [if_neg (of_decide_eq_false q5), if_pos (of_decide_eq_true q6)]]
          exact ⟨by omega, rfl, rfl⟩
      · have eb : b2I c0 c1 = 1 := by unfold b2I; rw [if_pos (of_decide_eq_true q5)]
        rw [eb] at k6
        simp only [go_sem, ↓reduceIte, Nat.reduceEqDiff, reduceCtorEq, Nat.reduceAdd, Nat.reduceLeDiff, Nat.reduceMul, k3, k32, k33, k6, hH, l2, i2, h1]
        cases q6 : decide (c2 > c1) <;> simp only [go_sem, ↓reduceIte, Nat.reduceEqDiff, reduceCtorEq, Nat.reduceAdd, Nat.reduceLeDiff, Nat.reduceMul, k3, k32, k33, k6, hH, q6, p2]
        · rw [e3, show bzI c0 c1 c2 = 1 by unfold bzI; rw [if_pos (of_decide_eq_true q5), if_neg (of_decide_eq_false q6), eb]]
          exact ⟨by omega, rfl, rfl⟩
        · rw [e3, show bzI c0 c1 c2 = 2 by unfold bzI; rw [if_pos (of_decide_eq_true q5), if_pos (of_decide_eq_true q6)]]
          exact ⟨by omega, rfl, rfl⟩
    · have k33 : s'.ρ 33 = .val (.int .i64 3) := k33
      have k6 : s'.ρ 6 = .val (.int .i64 (bzI c0 c1 c2)) := k6
      simp only [go_sem, ↓reduceIte, Nat.reduceEqDiff, reduceCtorEq, Nat.reduceAdd, Nat.reduceLeDiff, Nat.reduceMul, k3, k32, k33, k6, hH, l3]
  · rintro s' ⟨hH, k6⟩
    simp only [go_sem, ↓reduceIte, Nat.reduceEqDiff, reduceCtorEq, Nat.reduceAdd, Nat.reduceLeDiff, Nat.reduceMul, hH, k6]
theorem law5 {m : Md} {H : Hp} {v0 : Value} {w : Wd} (e0 : ∃ u s l p n t k a c h e x d, v0 = .agg #[u, s, l, p, .int .i64 w.cf.skew, .int .i64 w.now, .int .i64 w.fresh, n, t, k, a, c, h, e, x, d] ∧ RWd H w u s l p n t k a c h e x d) (hy : WdY w) (hw : Wr m H) (hnr : m.nr = false) : Fun EE m 5 [v0] H fun r _ => r = .bool true := by
  obtain ⟨u, s, l, p, n, t, k, a, c, h, e, x, d, rfl, q⟩ := e0
  refine fun_f rfl rfl k5 (by simp [c5]) ?_
  have V := q.vcs
  simp only [go_sem, ↓reduceIte, Nat.reduceEqDiff, reduceCtorEq, Nat.reduceAdd, Nat.reduceLeDiff, Nat.reduceMul, c5, V]
  refine callT_to (fun m' h' => f7 q hy (left := 1048576) (by omega) (by omega) m' h') rfl hw fun r H' ⟨⟨n0, e0, hn0⟩, e2⟩ => ?_
  subst e0; subst e2
  simp only [go_sem, ↓reduceIte, Nat.reduceEqDiff, reduceCtorEq, Nat.reduceAdd, Nat.reduceLeDiff, Nat.reduceMul, V]
  refine brT.intro (fun q0 => ?_) (fun q0 => ?_) <;> simp only [go_sem, ↓reduceIte, Nat.reduceEqDiff, reduceCtorEq, Nat.reduceAdd, Nat.reduceLeDiff, Nat.reduceMul, V]
  have zs := hn0 (by have := of_decide_eq_false q0; omega)
  have z := hy.z zs
  refine callT_nr (fun m' g hn => f9 q zs g (hn.trans hnr)) rfl hw fun r1 H1 ⟨u1, s1, l1, p1, n1, t1, k1, a1, c1, h1, e1, x1, d1, E1, P1, q1⟩ => ?_
  subst E1
  have w1 := hw.pre P1
  have V1 := q1.vcs
  have asp := fun {m draw s' d' ts Q} => callT_at (m := m) (draw := draw) (s := s') (d := d') (ts := ts) (Q := Q) (f15 q1 z)
  simp only [go_sem, ↓reduceIte, Nat.reduceEqDiff, reduceCtorEq, Nat.reduceAdd, Nat.reduceLeDiff, Nat.reduceMul, V, V1, asp, w1]
  refine callT_nr (fun m' g hn => f9 (q.pre P1) zs g (hn.trans hnr)) rfl w1 fun r2 H2 ⟨u2, s2, l2, p2, n2, t2, k2, a2, c2, h2, e2, x2, d2, E2, P2, q2⟩ => ?_
  subst E2
  have w2 := w1.pre P2
  have V2 := q2.vcs
  have ai := fun {m draw s' d' ts Q} => callT_at (m := m) (draw := draw) (s := s') (d := d') (ts := ts) (Q := Q) (f16 q2 z)
  simp only [go_sem, ↓reduceIte, Nat.reduceEqDiff, reduceCtorEq, Nat.reduceAdd, Nat.reduceLeDiff, Nat.reduceMul, V, V1, V2, ai, w2, di, Bool.not_true]
  refine go_draw ?_
  simp only [go_sem, ↓reduceIte, Nat.reduceEqDiff, reduceCtorEq, Nat.reduceAdd, Nat.reduceLeDiff, Nat.reduceMul, V, V2]
  refine callT_nr (fun m' g hn => f9 ((q.pre P1).pre P2) zs g (hn.trans hnr)) rfl w2 fun r3 H3 ⟨u3, s3, l3, p3, n3, t3, k3, a3, c3, h3, e3, x3, d3, E3, P3, q3⟩ => ?_
  subst E3
  have w3 := w2.pre P3
  have V3 := q3.vcs
  have a12 := fun {m draw s' d' ts Q} => callT_at (m := m) (draw := draw) (s := s') (d := d') (ts := ts) (Q := Q) (f12 (q2.pre P3) q3)
  simp only [go_sem, ↓reduceIte, Nat.reduceEqDiff, reduceCtorEq, Nat.reduceAdd, Nat.reduceLeDiff, Nat.reduceMul, V, V2, V3, a12, w3, Bool.not_true]
  rfl
end Go.Proofs.YtglboiahgpfjdaaGreat.Ev

/- Numbers as texts of digits, both ways. -/
namespace Go.Proofs.YtglboiahgpfjdaaGreat.Ev
set_option linter.all false
open Go
set_option maxRecDepth 4000

end Go.Proofs.YtglboiahgpfjdaaGreat.Ev

/- A world's story: lines of words and numbers. -/
namespace Go.Proofs.YtglboiahgpfjdaaGreat.Ev
set_option linter.all false
open Go
set_option maxRecDepth 4000

theorem zeros_5 (z : List Value) : zeros 5 z = z ++ (z ++ (z ++ (z ++ z))) := by simp [zeros, List.replicate_succ]
theorem zeros_6 (z : List Value) : zeros 6 z = z ++ (z ++ (z ++ (z ++ (z ++ z)))) := by simp [zeros, List.replicate_succ]
attribute [go_sem] zeros_5 zeros_6
/-- The same program, nothing told by itself: for the words alone. -/
noncomputable def EE0 : Env := { fns := fnsOf Go.Proofs.Tryz.prog (fun _ _ => false), prim := fun _ => none, pw := fun _ => false, tr := fun f => trT.contains f }
theorem k51' : EE0.fns 51 = some c51 := by kernel_rfl
theorem k82' : EE0.fns 82 = some c82 := by kernel_rfl
theorem f82' {H : Hp} {a b c : Int} : Scal EE0 82 [.int .i64 a, .int .i64 b, .int .i64 c] H (.bool (inB a b c)) := by
  refine scal_ok rfl rfl k82' (by simp [c82]) rfl fun m hw => ?_
  unfold inB
  simp only [go_sem, ↓reduceIte, Nat.reduceEqDiff, reduceCtorEq, Nat.reduceAdd, Nat.reduceLeDiff, Nat.reduceMul, c82]
  refine brT.intro (fun q => ?_) (fun q => ?_) <;> simp only [go_sem, ↓reduceIte, Nat.reduceEqDiff, reduceCtorEq, Nat.reduceAdd, Nat.reduceLeDiff, Nat.reduceMul, q]
theorem own_S {H : Hp} {l : List ByteArray} (h : l.length ≤ 1000) : SlS (H ++ [l.map Value.string]) (.slice (some ⟨H.length, 0, some 1⟩) l.length (l.length * 1)) l :=
  .inr ⟨H.length, 0, l.length * 1, l.map Value.string, rfl, by simp, by simp, by simp, by omega, fun i b hi => by
    unfold En eS
    refine List.ext_getElem? fun j => ?_
    rw [List.getElem?_take, List.getElem?_drop]
    cases j with
    | zero =>
      simp only [Nat.lt_one_iff, if_true, Nat.zero_add, Nat.mul_one, Nat.add_zero, List.getElem?_map, hi]
      rfl
    | succ j => simp⟩
theorem evW_no {k : Int} (h : inB k 1 4 = false) : evWd k = ⟨#[101, 118, 101, 110, 116]⟩ := by
  have h2 : ¬ (1 ≤ k ∧ k ≤ 4) := fun e => by rw [inB_t.2 e] at h; cases h
  unfold evWd
  rw [if_neg (by omega), if_neg (by omega), if_neg (by omega), if_neg (by omega)]
def nm4 : List ByteArray := [⟨#[108, 111, 103, 105, 110]⟩, ⟨#[105, 115, 115, 117, 101]⟩, ⟨#[114, 101, 102, 101, 114]⟩, ⟨#[100, 101, 108, 101, 103, 97, 116, 101]⟩]
theorem evW_at {k : Int} (h : inB k 1 4 = true) : ∃ i : Nat, k = (i : Int) + 1 ∧ i < 4 ∧ nm4[i]? = some (evWd k) ∧ (⟨#[]⟩ :: nm4)[i + 1]? = some (evWd k) := by
  have h2 := inB_t.1 h
  obtain ⟨i, rfl⟩ : ∃ i : Nat, k = (i : Int) + 1 := ⟨(k - 1).toNat, by omega⟩
  have : i = 0 ∨ i = 1 ∨ i = 2 ∨ i = 3 := by omega
  rcases this with rfl | rfl | rfl | rfl <;> exact ⟨_, rfl, by omega, rfl, rfl⟩
theorem f51' {H : Hp} {k : Int} : Scal EE0 51 [.int .i64 k] H (.string (evWd k)) := by
  refine scal_ok rfl rfl k51' (by simp [c51]) rfl fun m hw => ?_
  have a82 := fun {m draw s' d' ts Q} => callT_at (m := m) (draw := draw) (s := s') (d := d') (ts := ts) (Q := Q) (f82' (H := H) (a := k) (b := 1) (c := 4))
  simp only [go_sem, ↓reduceIte, Nat.reduceEqDiff, reduceCtorEq, Nat.reduceAdd, Nat.reduceLeDiff, Nat.reduceMul, c51, a82, hw]
  cases q : inB k 1 4 <;> simp only [go_sem, ↓reduceIte, Nat.reduceEqDiff, reduceCtorEq, Nat.reduceAdd, Nat.reduceLeDiff, Nat.reduceMul, q]
  · rw [evW_no q]
  obtain ⟨i, rfl, hi, hg, _⟩ := evW_at q
  have hs : SlS (H ++ [[.string ⟨#[108, 111, 103, 105, 110]⟩, .string ⟨#[105, 115, 115, 117, 101]⟩, .string ⟨#[114, 101, 102, 101, 114]⟩, .string ⟨#[100, 101, 108, 101, 103, 97, 116, 101]⟩]]) (.slice (some ⟨H.length, 0, some 1⟩) 4 (4 * 1)) nm4 := own_S (l := nm4) (by decide)
  obtain ⟨id, p, o, ho, hr, hia⟩ := hs.str hg
  have wk : IntKind.i64.wrap ((i : Int) + 1 - 1) = (i : Int) := by rw [wrap64 _ (by omega) (by omega)]; omega
  simp only [go_sem, ↓reduceIte, Nat.reduceEqDiff, reduceCtorEq, Nat.reduceAdd, Nat.reduceLeDiff, Nat.reduceMul, wk, hia, ho, hr]
  try simp
theorem pureSound : PureSound Go.Proofs.Tryz.prog := by
  intro f k v h
  have h : (if f = 51 then some (Value.string (evWd k)) else none) = some v := h
  split at h
  · rename_i hf
    subst hf
    cases h
    have hk := f51' (H := []) (k := k) { wr := fun id => decide (([] : Hp).length ≤ id), nr := false } (fun id hid => by simpa using hid)
    obtain ⟨kk, r, H', h1, h2⟩ := hk
    have hs := sound (B := 0) (P := Go.Proofs.Tryz.prog) (E := EE0) (hv := fun _ _ => false) (by kernel_rfl) rfl (.inr fun _ _ => rfl) (fun f p h => by cases h) (fun f p h => by cases h) kk _ _ _ _ _ _ h1 (fun id _ => Nat.zero_le _) (Nat.zero_le _)
    refine ⟨hs.1, fun w => ?_⟩
    refine (hs.2 (fun _ => none) w #[.int .i64 k] (RdRel.nil w) (.cons (.int _ _) .nil)).mono fun e w' ⟨v, J', he, t1, t2, t3⟩ => ?_
    rw [h2.1] at t3
    rw [t3.str_inv] at he
    exact ⟨he, t1.os, t1.tape, t1.output, t1.grow, fun b hb => t1.frame b hb fun id l hl _ => by cases hl⟩
  · cases h
end Go.Proofs.YtglboiahgpfjdaaGreat.Ev
