/- Texts of this proof, laid one behind the other: what each shows stands at its head. -/
import Derived.Test.YtglboiahgpfjdaaGreatB3
import Derived.Test.YtglboiahgpfjdaaGreatB5
/- A config: is it right? Both ways. -/
namespace Go.Proofs.YtglboiahgpfjdaaGreat.Ev
set_option linter.all false
open Go
set_option maxRecDepth 4000

structure Cfg where
  ur : List Int
  sr : List Int
  lk : List Pr
  px : List Pr
  skew : Int
noncomputable def cfOk (c : Cfg) : Bool := decide (c.ur.length = 3) && (l5R c.ur 3 3 && (decide (c.sr.length = 3) && (l5R c.sr 3 3 && (paOk lkOk c.lk && (paOk pxOk c.px && inB c.skew 0 20)))))
structure RCf (H : Hp) (c : Cfg) (u s l p : Value) : Prop where
  ur : SlI H u c.ur
  sr : SlI H s c.sr
  lk : SlP H l c.lk
  px : SlP H p c.px
theorem RCf.pre {H H' : Hp} {c : Cfg} {u s l p : Value} (h : RCf H c u s l p) (hp : H <+: H') : RCf H' c u s l p := ⟨h.ur.pre hp, h.sr.pre hp, h.lk.pre hp, h.px.pre hp⟩
theorem c48l (n : Nat) (k : Nat) : decide ((n : Int) = (k : Int)) = decide (n = k) := by rw [decide_eq_decide]; omega
theorem l5_len {l : List Int} : (decide ((l.length : Int) = 3)) = decide (l.length = 3) := c48l _ 3
theorem f62_3 {H : Hp} {v : Value} {l : List Int} (hl : SlI H v l) : Scal EE 62 [v, .int .i64 3, .int .i64 3] H (.bool (l5R l 3 3)) := f62 (most := 3) hl
theorem f117_3 {H : Hp} {v : Value} {l : List Int} (hl : SlI H v l) : Scal EE 117 [v, .int .i64 3, .func (.func 118) #[] #[]] H (.bool (l5R l 3 3)) := f117 (most := 3) (k := 118) (caps := #[]) (p := fun n => inB n 0 2) hl fun n => f118
theorem f55 {H : Hp} {c : Cfg} {u s l p : Value} (h : RCf H c u s l p) : Scal EE 55 [.agg #[u, s, l, p, .int .i64 c.skew]] H (.bool (cfOk c)) := by
  refine scal_ok rfl rfl k55 (by simp [c55]) rfl fun m hw => ?_
  have a62 := fun {m draw s d ts Q} => callT_at (m := m) (draw := draw) (s := s) (d := d) (ts := ts) (Q := Q) (f62_3 h.ur)
  have b62 := fun {m draw s d ts Q} => callT_at (m := m) (draw := draw) (s := s) (d := d) (ts := ts) (Q := Q) (f62_3 h.sr)
  have a97 := fun {m draw s d ts Q} => callT_at (m := m) (draw := draw) (s := s) (d := d) (ts := ts) (Q := Q) (f97 (u := true) h.lk)
  have b97 := fun {m draw s d ts Q} => callT_at (m := m) (draw := draw) (s := s) (d := d) (ts := ts) (Q := Q) (f97 (u := false) h.px)
  rw [prF_lk] at a97
  rw [prF_px] at b97
  simp only [go_sem, ↓reduceIte, Nat.reduceEqDiff, reduceCtorEq, Nat.reduceAdd, Nat.reduceLeDiff, Nat.reduceMul, c55, h.ur.len, l5_len, hw]
  cases q1 : decide (c.ur.length = 3) <;> simp only [go_sem, ↓reduceIte, Nat.reduceEqDiff, reduceCtorEq, Nat.reduceAdd, Nat.reduceLeDiff, Nat.reduceMul, q1, a62, hw]
  · rw [show cfOk c = false by unfold cfOk; rw [q1]; rfl]
  cases q2 : l5R c.ur 3 3 <;> simp only [go_sem, ↓reduceIte, Nat.reduceEqDiff, reduceCtorEq, Nat.reduceAdd, Nat.reduceLeDiff, Nat.reduceMul, q2, h.sr.len, l5_len]
  · rw [show cfOk c = false by unfold cfOk; rw [q1, q2]; rfl]
  cases q3 : decide (c.sr.length = 3) <;> simp only [go_sem, ↓reduceIte, Nat.reduceEqDiff, reduceCtorEq, Nat.reduceAdd, Nat.reduceLeDiff, Nat.reduceMul, q3, b62, hw]
  · rw [show cfOk c = false by unfold cfOk; rw [q1, q2, q3]; rfl]
  cases q4 : l5R c.sr 3 3 <;> simp only [go_sem, ↓reduceIte, Nat.reduceEqDiff, reduceCtorEq, Nat.reduceAdd, Nat.reduceLeDiff, Nat.reduceMul, q4, a97, hw]
  · rw [show cfOk c = false by unfold cfOk; rw [q1, q2, q3, q4]; rfl]
  cases q5 : paOk lkOk c.lk <;> simp only [go_sem, ↓reduceIte, Nat.reduceEqDiff, reduceCtorEq, Nat.reduceAdd, Nat.reduceLeDiff, Nat.reduceMul, q5, b97, hw]
  · rw [show cfOk c = false by unfold cfOk; rw [q1, q2, q3, q4, q5]; rfl]
  cases q6 : paOk pxOk c.px <;> simp only [go_sem, ↓reduceIte, Nat.reduceEqDiff, reduceCtorEq, Nat.reduceAdd, Nat.reduceLeDiff, Nat.reduceMul, q6, c48', hw]
  · rw [show cfOk c = false by unfold cfOk; rw [q1, q2, q3, q4, q5, q6]; rfl]
  · rw [show cfOk c = inB c.skew 0 20 by unfold cfOk; rw [q1, q2, q3, q4, q5, q6]; rfl]
theorem f80 {H : Hp} {c : Cfg} {u s l p : Value} (h : RCf H c u s l p) : Scal EE 80 [.agg #[u, s, l, p, .int .i64 c.skew]] H (.bool (cfOk c)) := by
  refine scal_ok rfl rfl k80 (by simp [c80]) rfl fun m hw => ?_
  have a117 := fun {m draw s d ts Q} => callT_at (m := m) (draw := draw) (s := s) (d := d) (ts := ts) (Q := Q) (f117_3 h.ur)
  have b117 := fun {m draw s d ts Q} => callT_at (m := m) (draw := draw) (s := s) (d := d) (ts := ts) (Q := Q) (f117_3 h.sr)
  have a121 := fun {m draw s d ts Q} => callT_at (m := m) (draw := draw) (s := s) (d := d) (ts := ts) (Q := Q) (f121 (k := 122) (p := lkOk) h.lk fun x => f122)
  have b121 := fun {m draw s d ts Q} => callT_at (m := m) (draw := draw) (s := s) (d := d) (ts := ts) (Q := Q) (f121 (k := 123) (p := pxOk) h.px fun x => f123)
  simp only [go_sem, ↓reduceIte, Nat.reduceEqDiff, reduceCtorEq, Nat.reduceAdd, Nat.reduceLeDiff, Nat.reduceMul, c80, a121, b121, hw]
  cases q5 : paOk lkOk c.lk <;> simp only [go_sem, ↓reduceIte, Nat.reduceEqDiff, reduceCtorEq, Nat.reduceAdd, Nat.reduceLeDiff, Nat.reduceMul, q5]
  · rw [show cfOk c = false by unfold cfOk; rw [q5]; simp]
  cases q6 : paOk pxOk c.px <;> simp only [go_sem, ↓reduceIte, Nat.reduceEqDiff, reduceCtorEq, Nat.reduceAdd, Nat.reduceLeDiff, Nat.reduceMul, q6, h.ur.len, l5_len]
  · rw [show cfOk c = false by unfold cfOk; rw [q6]; simp]
  cases q1 : decide (c.ur.length = 3) <;> simp only [go_sem, ↓reduceIte, Nat.reduceEqDiff, reduceCtorEq, Nat.reduceAdd, Nat.reduceLeDiff, Nat.reduceMul, q1, a117, hw]
  · rw [show cfOk c = false by unfold cfOk; rw [q1]; rfl]
  cases q2 : l5R c.ur 3 3 <;> simp only [go_sem, ↓reduceIte, Nat.reduceEqDiff, reduceCtorEq, Nat.reduceAdd, Nat.reduceLeDiff, Nat.reduceMul, q2, h.sr.len, l5_len]
  · rw [show cfOk c = false by unfold cfOk; rw [q1, q2]; rfl]
  cases q3 : decide (c.sr.length = 3) <;> simp only [go_sem, ↓reduceIte, Nat.reduceEqDiff, reduceCtorEq, Nat.reduceAdd, Nat.reduceLeDiff, Nat.reduceMul, q3, b117, hw]
  · rw [show cfOk c = false by unfold cfOk; rw [q1, q2, q3]; rfl]
  cases q4 : l5R c.sr 3 3 <;> simp only [go_sem, ↓reduceIte, Nat.reduceEqDiff, reduceCtorEq, Nat.reduceAdd, Nat.reduceLeDiff, Nat.reduceMul, q4, c82', hw]
  · rw [show cfOk c = false by unfold cfOk; rw [q1, q2, q3, q4]; rfl]
  · rw [show cfOk c = inB c.skew 0 20 by unfold cfOk; rw [q1, q2, q3, q4, q5, q6]; rfl]
end Go.Proofs.YtglboiahgpfjdaaGreat.Ev

/- What is known: is it right? Both ways. -/
namespace Go.Proofs.YtglboiahgpfjdaaGreat.Ev
set_option linter.all false
open Go
set_option maxRecDepth 4000

noncomputable def tmB (t : List ByteArray) (i : Nat) (x : ByteArray) : Bool := tOk x && !((t.take i).any fun a => decide (a = x))
def KnP (t : List ByteArray) (k : List Int) : Prop := t.length ≤ 60 ∧ k.length ≤ 40 ∧ (∀ i, (h : i < t.length) → tmB t i t[i] = true) ∧ (∀ i, (h : i < k.length) → inB k[i] 1 1000000 = true) ∧ ∀ i, (h : i + 1 < k.length) → k[i]'(by omega) < k[i + 1]
open Classical in
noncomputable def knOk (t : List ByteArray) (k : List Int) : Bool := decide (KnP t k)
theorem kn_t {t : List ByteArray} {k : List Int} : knOk t k = true ↔ KnP t k := by unfold knOk; simp
theorem kn_no {t : List ByteArray} {k : List Int} (h : ¬ KnP t k) : knOk t k = false := by
  cases h2 : knOk t k with
  | false => rfl
  | true => exact absurd (kn_t.1 h2) h
theorem kn_a {t : List ByteArray} {k : List Int} {i : Nat} (hi : i < t.length) (h : tOk t[i] = false) : knOk t k = false := kn_no fun hp => by
  have := hp.2.2.1 i hi
  unfold tmB at this
  rw [h] at this
  cases this
theorem kn_b {t : List ByteArray} {k : List Int} {i : Nat} (hi : i < t.length) (h : ((t.take i).any fun a => decide (a = t[i])) = true) : knOk t k = false := kn_no fun hp => by
  have := hp.2.2.1 i hi
  unfold tmB at this
  rw [h] at this
  simp at this
theorem kn_c {t : List ByteArray} {k : List Int} {i : Nat} (hi : i < k.length) (h : inB k[i] 1 1000000 = false) : knOk t k = false := kn_no fun hp => by
  have := hp.2.2.2.1 i hi
  rw [h] at this
  cases this
theorem kn_d {t : List ByteArray} {k : List Int} {i : Nat} (hi : i + 1 < k.length) (h : k[i]'(by omega) ≥ k[i + 1]) : knOk t k = false := kn_no fun hp => by
  have := hp.2.2.2.2 i hi
  omega
theorem tm_next {t : List ByteArray} {i : Nat} (hi : i < t.length) (hn : ∀ j, j < i → (h : j < t.length) → tmB t j t[j] = true) (qa : tOk t[i] = true) (qb : ((t.take i).any fun a => decide (a = t[i])) = false) : ∀ j, j < i + 1 → (h : j < t.length) → tmB t j t[j] = true := fun j hj hjl => by
  by_cases e : j = i
  · subst e; unfold tmB; rw [qa, qb]; rfl
  · exact hn j (by omega) hjl
theorem in_next {k : List Int} {i : Nat} (hi : i < k.length) (hn : ∀ j, j < i → (h : j < k.length) → inB k[j] 1 1000000 = true) (qa : inB k[i] 1 1000000 = true) : ∀ j, j < i + 1 → (h : j < k.length) → inB k[j] 1 1000000 = true := fun j hj hjl => by
  by_cases e : j = i
  · subst e; exact qa
  · exact hn j (by omega) hjl
theorem any_st {l : List ByteArray} {x : ByteArray} : (l.any fun y => decide (x = y)) = l.any fun a => decide (a = x) := by
  congr 1
  funext a
  rw [decide_eq_decide]
  exact eq_comm

theorem f56 {H : Hp} {u w : Value} {t : List ByteArray} {k : List Int} (ht : SlS H u t) (hk : SlI H w k) (hz : ∀ z ∈ t, z.size ≤ 4611686018427387904) : Scal EE 56 [.agg #[u, w]] H (.bool (knOk t k)) := by
  refine scal_ok rfl rfl k56 (by simp [c56]) rfl fun m hw => ?_
  have hroom := ht.room
  have hroom2 := hk.room
  simp only [go_sem, ↓reduceIte, Nat.reduceEqDiff, reduceCtorEq, Nat.reduceAdd, Nat.reduceLeDiff, Nat.reduceMul, c56, ht.len]
  cases q1 : decide ((t.length : Int) > 60) <;> simp only [go_sem, ↓reduceIte, Nat.reduceEqDiff, reduceCtorEq, Nat.reduceAdd, Nat.reduceLeDiff, Nat.reduceMul, q1, hk.len]
  rotate_left
  · rw [kn_no fun h => by have := h.1; have := of_decide_eq_true q1; omega]
  cases q2 : decide ((k.length : Int) > 40) <;> simp only [go_sem, ↓reduceIte, Nat.reduceEqDiff, reduceCtorEq, Nat.reduceAdd, Nat.reduceLeDiff, Nat.reduceMul, q2]
  rotate_left
  · rw [kn_no fun h => by have := h.2.1; have := of_decide_eq_true q2; omega]
  have h1 : t.length ≤ 60 := by have := of_decide_eq_false q1; omega
  have h2 : k.length ≤ 40 := by have := of_decide_eq_false q2; omega
  refine go_for t.length (fun i s => s.H = H ∧ (∃ g, s.ρ 1 = .bx g [u, w]) ∧ s.ρ 3 = .val (.int .i64 i) ∧ ∀ j, j < i → (h : j < t.length) → tmB t j t[j] = true)
    (fun s => s.H = H ∧ (∃ g, s.ρ 1 = .bx g [u, w]) ∧ ∀ j, (h : j < t.length) → tmB t j t[j] = true) (by simp [upd, ini]) ?_ ?_
  · rintro i s hi ⟨hH, ⟨g, k1⟩, k3, hn⟩
    simp only [go_sem, ↓reduceIte, Nat.reduceEqDiff, reduceCtorEq, Nat.reduceAdd, Nat.reduceLeDiff, Nat.reduceMul, k1, k3, ht.len]
    cases c1 : decide ((i : Int) < (t.length : Int)) <;> simp only [go_sem, ↓reduceIte, Nat.reduceEqDiff, reduceCtorEq, Nat.reduceAdd, Nat.reduceLeDiff, Nat.reduceMul, k1, k3, c1]
    · have : i = t.length := by have := of_decide_eq_false c1; omega
      subst this
      exact ⟨hH, ⟨_, rfl⟩, fun j h => hn j h h⟩
    have hil : i < t.length := by have := of_decide_eq_true c1; omega
    have w1 := wrap64 ((i : Int) + 1) (by omega) (by omega)
    obtain ⟨id, p, o, ho, hr, hia⟩ := ht.str (List.getElem?_eq_getElem hil)
    obtain ⟨w', hw', hsl⟩ := ht.take hi
    have a57 := fun {m draw s d ts Q} => callT_at (m := m) (draw := draw) (s := s) (d := d) (ts := ts) (Q := Q) (f57 (H := H) (hz _ (List.getElem_mem hil)))
    have a98 := fun {m draw s d ts Q} => callT_at (m := m) (draw := draw) (s := s) (d := d) (ts := ts) (Q := Q) (f98 (h := t[i]) hw')
    refine go_draw ?_
    cases qa : tOk t[i] <;> simp only [go_sem, ↓reduceIte, Nat.reduceEqDiff, reduceCtorEq, Nat.reduceAdd, Nat.reduceLeDiff, Nat.reduceMul, k1, k3, hia, hH, ho, hr, a57, hw, qa]
    · refine ⟨by rfl, ?_⟩
      (try simp only [go_sem, ↓reduceIte, Nat.reduceEqDiff, reduceCtorEq, Nat.reduceAdd, Nat.reduceLeDiff, Nat.reduceMul, hH])
      rw [kn_a hil qa]
    simp only [go_sem, ↓reduceIte, Nat.reduceEqDiff, reduceCtorEq, Nat.reduceAdd, Nat.reduceLeDiff, Nat.reduceMul, k1, k3, hH, hsl, hia, ho, hr, a98, hw]
    refine ⟨by rfl, ?_⟩
    cases qb : (t.take i).any fun a => decide (a = t[i]) <;> simp only [go_sem, ↓reduceIte, Nat.reduceEqDiff, reduceCtorEq, Nat.reduceAdd, Nat.reduceLeDiff, Nat.reduceMul, k1, k3, qb, w1, hH]
    · exact ⟨hil, ⟨_, rfl⟩, by simp, tm_next hil hn qa qb⟩
    · rw [kn_b hil qb]
  · rintro s ⟨hH, ⟨g, k1⟩, hT⟩
    simp only [go_sem, ↓reduceIte, Nat.reduceEqDiff, reduceCtorEq, Nat.reduceAdd, Nat.reduceLeDiff, Nat.reduceMul, k1]
    refine go_for k.length (fun i s => s.H = H ∧ (∃ g, s.ρ 1 = .bx g [u, w]) ∧ s.ρ 4 = .val (.int .i64 i) ∧ (∀ j, j < i → (h : j < k.length) → inB k[j] 1 1000000 = true) ∧ ∀ j, j + 1 < i → (h : j + 1 < k.length) → k[j]'(by omega) < k[j + 1])
      (fun s => s.H = H ∧ (∀ j, (h : j < k.length) → inB k[j] 1 1000000 = true) ∧ ∀ j, (h : j + 1 < k.length) → k[j]'(by omega) < k[j + 1]) ⟨hH, ⟨g, by simp [upd, k1]⟩, by simp [upd], by simp, by simp⟩ ?_ ?_
    · rintro i s hi ⟨hH, ⟨g, k1⟩, k4, hn, hm⟩
      simp only [go_sem, ↓reduceIte, Nat.reduceEqDiff, reduceCtorEq, Nat.reduceAdd, Nat.reduceLeDiff, Nat.reduceMul, k1, k4, hk.len]
      cases c1 : decide ((i : Int) < (k.length : Int)) <;> simp only [go_sem, ↓reduceIte, Nat.reduceEqDiff, reduceCtorEq, Nat.reduceAdd, Nat.reduceLeDiff, Nat.reduceMul, k1, k4, c1]
      · have : i = k.length := by have := of_decide_eq_false c1; omega
        subst this
        exact ⟨hH, fun j h => hn j h h, fun j h => hm j h h⟩
      have hil : i < k.length := by have := of_decide_eq_true c1; omega
      have w1 := wrap64 ((i : Int) + 1) (by omega) (by omega)
      obtain ⟨id, p, o, ho, hr, hia⟩ := hk.int (List.getElem?_eq_getElem hil)
      refine go_draw ?_
      cases qa : inB k[i] 1 1000000 <;> simp only [go_sem, ↓reduceIte, Nat.reduceEqDiff, reduceCtorEq, Nat.reduceAdd, Nat.reduceLeDiff, Nat.reduceMul, k1, k4, hia, hH, ho, hr, c48', hw, qa]
      · refine ⟨by rfl, ?_⟩
        (try simp only [go_sem, ↓reduceIte, Nat.reduceEqDiff, reduceCtorEq, Nat.reduceAdd, Nat.reduceLeDiff, Nat.reduceMul, hH])
        rw [kn_c hil qa]
      cases i with
      | zero =>
        simp only [go_sem, ↓reduceIte, Nat.reduceEqDiff, reduceCtorEq, Nat.reduceAdd, Nat.reduceLeDiff, Nat.reduceMul, k1, k4, hH, Int.ofNat_zero, Int.reduceGT, Int.ofNat_eq_natCast, decide_false, Int.natCast_zero, show decide (((0 : Nat) : Int) > 0) = false from rfl, show (((0 : Nat) : Int)) = 0 from rfl, w1]
        refine ⟨by rfl, ?_⟩
        have w1 : IntKind.i64.wrap (0 + 1) = 1 := rfl
        (try simp only [go_sem, ↓reduceIte, Nat.reduceEqDiff, reduceCtorEq, Nat.reduceAdd, Nat.reduceLeDiff, Nat.reduceMul, k1, k4, hH, w1])
        exact ⟨hil, ⟨_, rfl⟩, rfl, in_next hil hn qa, fun j h => by omega⟩
      | succ j =>
        have hpos : decide (((j + 1 : Nat) : Int) > 0) = true := decide_eq_true (by omega)
        have wm : IntKind.i64.wrap (((j + 1 : Nat) : Int) - 1) = (j : Int) := by rw [wrap64 _ (by omega) (by omega)]; omega
        obtain ⟨id2, p2, o2, ho2, hr2, hia2⟩ := hk.int (List.getElem?_eq_getElem (show j < k.length by omega))
        simp only [go_sem, ↓reduceIte, Nat.reduceEqDiff, reduceCtorEq, Nat.reduceAdd, Nat.reduceLeDiff, Nat.reduceMul, k1, k4, hH, hpos, wm, hia, ho, hr, hia2, ho2, hr2]
        refine ⟨by rfl, ?_⟩
        cases qb : decide (k[j] ≥ k[j + 1]) <;> simp only [go_sem, ↓reduceIte, Nat.reduceEqDiff, reduceCtorEq, Nat.reduceAdd, Nat.reduceLeDiff, Nat.reduceMul, k1, k4, qb, w1, hH]
        · refine ⟨hil, ⟨_, rfl⟩, by simp, in_next hil hn qa, fun x hx hxl => ?_⟩
          by_cases e : x = j
          · subst e; have := of_decide_eq_false qb; omega
          · exact hm x (by omega) hxl
        · rw [kn_d hil (of_decide_eq_true qb)]
    · rintro s ⟨hH, hn, hm⟩
      simp only [go_sem, ↓reduceIte, Nat.reduceEqDiff, reduceCtorEq, Nat.reduceAdd, Nat.reduceLeDiff, Nat.reduceMul, hH]
      rw [kn_t.2 ⟨h1, h2, hT, hn, hm⟩]

theorem f83 {H : Hp} {u w : Value} {t : List ByteArray} {k : List Int} (ht : SlS H u t) (hk : SlI H w k) (hz : ∀ z ∈ t, z.size ≤ 4611686018427387904) : Scal EE 83 [.agg #[u, w]] H (.bool (knOk t k)) := by
  refine scal_ok rfl rfl k83 (by simp [c83]) rfl fun m hw => ?_
  have hroom := ht.room
  have hroom2 := hk.room
  simp only [go_sem, ↓reduceIte, Nat.reduceEqDiff, reduceCtorEq, Nat.reduceAdd, Nat.reduceLeDiff, Nat.reduceMul, c83, ht.len]
  refine go_for t.length (fun i s => s.H = H ∧ (∃ g, s.ρ 1 = .bx g [u, w]) ∧ s.ρ 8 = .val u ∧ s.ρ 9 = .val (.int .i64 t.length) ∧ s.ρ 10 = .val (.int .i64 i) ∧ ∀ j, j < i → (h : j < t.length) → tmB t j t[j] = true)
    (fun s => s.H = H ∧ (∃ g, s.ρ 1 = .bx g [u, w]) ∧ ∀ j, (h : j < t.length) → tmB t j t[j] = true) (by simp [upd, ini]) ?_ ?_
  · rintro i s hi ⟨hH, ⟨g, k1⟩, k8, k9, k10, hn⟩
    simp only [go_sem, ↓reduceIte, Nat.reduceEqDiff, reduceCtorEq, Nat.reduceAdd, Nat.reduceLeDiff, Nat.reduceMul, k1, k8, k9, k10]
    cases c1 : decide ((i : Int) < (t.length : Int)) <;> simp only [go_sem, ↓reduceIte, Nat.reduceEqDiff, reduceCtorEq, Nat.reduceAdd, Nat.reduceLeDiff, Nat.reduceMul, k1, k8, k9, k10, c1]
    · have : i = t.length := by have := of_decide_eq_false c1; omega
      subst this
      exact ⟨hH, ⟨_, rfl⟩, fun j h => hn j h h⟩
    have hil : i < t.length := by have := of_decide_eq_true c1; omega
    have w1 := wrap64 ((i : Int) + 1) (by omega) (by omega)
    obtain ⟨id, p, o, ho, hr, hia⟩ := ht.str (List.getElem?_eq_getElem hil)
    obtain ⟨w', hw', hsl⟩ := ht.take hi
    have a79 := fun {m draw s d ts Q} => callT_at (m := m) (draw := draw) (s := s) (d := d) (ts := ts) (Q := Q) (f79 (H := H) (hz _ (List.getElem_mem hil)))
    have a124 := fun {m draw s d ts Q} => callT_at (m := m) (draw := draw) (s := s) (d := d) (ts := ts) (Q := Q) (f124 (h := t[i]) hw')
    rw [any_st] at a124
    cases qa : tOk t[i] <;> simp only [go_sem, ↓reduceIte, Nat.reduceEqDiff, reduceCtorEq, Nat.reduceAdd, Nat.reduceLeDiff, Nat.reduceMul, k1, k8, k9, k10, hia, hH, ho, hr, a79, hw, qa]
    · rw [kn_a hil qa]
    simp only [go_sem, ↓reduceIte, Nat.reduceEqDiff, reduceCtorEq, Nat.reduceAdd, Nat.reduceLeDiff, Nat.reduceMul, k1, k8, k9, k10, hH, hsl, hia, ho, hr, a124, hw]
    cases qb : (t.take i).any fun a => decide (a = t[i]) <;> simp only [go_sem, ↓reduceIte, Nat.reduceEqDiff, reduceCtorEq, Nat.reduceAdd, Nat.reduceLeDiff, Nat.reduceMul, k1, k8, k9, k10, qb, w1, hH]
    · exact ⟨hil, ⟨_, rfl⟩, by simp, tm_next hil hn qa qb⟩
    · rw [kn_b hil qb]
  · rintro s ⟨hH, ⟨g, k1⟩, hT⟩
    simp only [go_sem, ↓reduceIte, Nat.reduceEqDiff, reduceCtorEq, Nat.reduceAdd, Nat.reduceLeDiff, Nat.reduceMul, k1, hk.len]
    refine go_for k.length (fun i s => s.H = H ∧ (∃ g, s.ρ 1 = .bx g [u, w]) ∧ s.ρ 28 = .val w ∧ s.ρ 29 = .val (.int .i64 k.length) ∧ s.ρ 30 = .val (.int .i64 i) ∧ (∀ j, j < i → (h : j < k.length) → inB k[j] 1 1000000 = true))
      (fun s => s.H = H ∧ (∃ g, s.ρ 1 = .bx g [u, w]) ∧ (∀ j, (h : j < k.length) → inB k[j] 1 1000000 = true)) ⟨hH, ⟨g, by simp [upd, k1]⟩, by simp [upd], by simp [upd], by simp [upd], by simp⟩ ?_ ?_
    · rintro i s hi ⟨hH, ⟨g, k1⟩, k28, k29, k30, hn⟩
      simp only [go_sem, ↓reduceIte, Nat.reduceEqDiff, reduceCtorEq, Nat.reduceAdd, Nat.reduceLeDiff, Nat.reduceMul, k1, k28, k29, k30]
      cases c1 : decide ((i : Int) < (k.length : Int)) <;> simp only [go_sem, ↓reduceIte, Nat.reduceEqDiff, reduceCtorEq, Nat.reduceAdd, Nat.reduceLeDiff, Nat.reduceMul, k1, k28, k29, k30, c1]
      · have : i = k.length := by have := of_decide_eq_false c1; omega
        subst this
        exact ⟨hH, ⟨_, rfl⟩, fun j h => hn j h h⟩
      have hil : i < k.length := by have := of_decide_eq_true c1; omega
      have w1 := wrap64 ((i : Int) + 1) (by omega) (by omega)
      obtain ⟨id, p, o, ho, hr, hia⟩ := hk.int (List.getElem?_eq_getElem hil)
      cases qa : inB k[i] 1 1000000 <;> simp only [go_sem, ↓reduceIte, Nat.reduceEqDiff, reduceCtorEq, Nat.reduceAdd, Nat.reduceLeDiff, Nat.reduceMul, k1, k28, k29, k30, hia, hH, ho, hr, c110', hw, qa, w1]
      · rw [kn_c hil qa]
      · exact ⟨hil, ⟨_, rfl⟩, by simp, in_next hil hn qa⟩
    · rintro s ⟨hH, ⟨g, k1⟩, hn⟩
      simp only [go_sem, ↓reduceIte, Nat.reduceEqDiff, reduceCtorEq, Nat.reduceAdd, Nat.reduceLeDiff, Nat.reduceMul, hH, k1, ht.len]
      cases q1 : decide ((t.length : Int) ≤ 60) <;> simp only [go_sem, ↓reduceIte, Nat.reduceEqDiff, reduceCtorEq, Nat.reduceAdd, Nat.reduceLeDiff, Nat.reduceMul, k1, q1, hk.len]
      · rw [kn_no fun h => by have := h.1; have := of_decide_eq_false q1; omega]
      cases q2 : decide ((k.length : Int) ≤ 40) <;> simp only [go_sem, ↓reduceIte, Nat.reduceEqDiff, reduceCtorEq, Nat.reduceAdd, Nat.reduceLeDiff, Nat.reduceMul, k1, q2]
      · rw [kn_no fun h => by have := h.2.1; have := of_decide_eq_false q2; omega]
      refine callT_to (fun m' h => f125 hk m' h) rfl hw fun r H' ⟨⟨b, e, hb⟩, e2⟩ => ?_
      subst e; subst e2
      simp only [go_sem, ↓reduceIte, Nat.reduceEqDiff, reduceCtorEq, Nat.reduceAdd, Nat.reduceLeDiff, Nat.reduceMul]
      cases b
      · rw [kn_no fun h => by have := hb.2 h.2.2.2.2; cases this]
      · rw [kn_t.2 ⟨by have := of_decide_eq_true q1; omega, by have := of_decide_eq_true q2; omega, hT, hn, hb.1 rfl⟩]
end Go.Proofs.YtglboiahgpfjdaaGreat.Ev

/- A world: is it right? The reference's way. -/
namespace Go.Proofs.YtglboiahgpfjdaaGreat.Ev
set_option linter.all false
open Go
set_option maxRecDepth 4000

structure Acp where
  sv : Int
  cl : Int
  ky : Int
  op : Int
  nw : Int
  au : Re
  rs : Re
  pa : List Int
  vi : List Int
  lk : Int
  tk : ByteArray
def RAc (H : Hp) (a : Acp) (cs : List Value) : Prop := ∃ p v, cs = [.int .i64 a.sv, .int .i64 a.cl, .int .i64 a.ky, .int .i64 a.op, .int .i64 a.nw, .int .i64 a.au.1, .int .i64 a.au.2.1, .int .i64 a.au.2.2, .int .i64 a.rs.1, .int .i64 a.rs.2.1, .int .i64 a.rs.2.2, p, v, .int .i64 a.lk, .string a.tk] ∧ SlI H p a.pa ∧ SlI H v a.vi
abbrev Ch := Int × List Re
def RCh (H : Hp) (x : Ch) (cs : List Value) : Prop := ∃ r, cs = [.int .i64 x.1, r] ∧ SlAu H r x.2
def eWt (x : Wt) : List Value := [.bool x.1, .int .i64 x.2.1, .int .i64 x.2.2.1, .int .i64 x.2.2.2]
def eCr (x : Cr) : List Value := [.int .i64 x.1, .int .i64 x.2.1, .int .i64 x.2.2.1, .int .i64 x.2.2.2.1, .int .i64 x.2.2.2.2.1.1, .int .i64 x.2.2.2.2.1.2.1, .int .i64 x.2.2.2.2.1.2.2, .string x.2.2.2.2.2]
structure Evt where
  kd : Int
  rm : Int
  bq : Int
  cl : Int
  sv : Int
  ky : Int
  pa : Int
  ev : Int
  rs : Re
def eEv (x : Evt) : List Value := [.int .i64 x.kd, .int .i64 x.rm, .int .i64 x.bq, .int .i64 x.cl, .int .i64 x.sv, .int .i64 x.ky, .int .i64 x.pa, .int .i64 x.ev, .int .i64 x.rs.1, .int .i64 x.rs.2.1, .int .i64 x.rs.2.2]
structure Wd where
  cf : Cfg
  now : Int
  fresh : Int
  net : List ByteArray
  tms : List ByteArray
  kys : List Int
  wts : List Wt
  crs : List Cr
  chs : List Ch
  log : List Evt
  acs : List Acp
  lks : List Int
structure RWd (H : Hp) (w : Wd) (u s l p n t k a c h e x d : Value) : Prop where
  cf : RCf H w.cf u s l p
  net : SlS H n w.net
  tms : SlS H t w.tms
  kys : SlI H k w.kys
  wts : Sl (En eWt) 4 H a w.wts
  crs : Sl (En eCr) 8 H c w.crs
  chs : Sl (RCh H) 2 H h w.chs
  log : Sl (En eEv) 11 H e w.log
  acs : Sl (RAc H) 15 H x w.acs
  lks : SlI H d w.lks
structure WdZ (w : Wd) : Prop where
  net : ∀ z ∈ w.net, z.size ≤ 4611686018427387904
  tms : ∀ z ∈ w.tms, z.size ≤ 4611686018427387904
  crs : ∀ z ∈ w.crs, z.2.2.2.2.2.size ≤ 4611686018427387904 ∧ I64 z.2.2.1
noncomputable def acOk (n : Int) (a : Acp) : Bool := inB a.sv 0 2 && (inB a.cl 0 5 && (inB a.lk 0 n && (l5R a.pa 6 3 && l5R a.vi 4 3)))
noncomputable def wdOk (w : Wd) : Bool := cfOk w.cf && (inB w.now 0 100000 && (inB w.fresh 101 1000000 && (decide (w.net.length ≤ 50) && (knOk w.tms w.kys && (decide (w.wts.length = 6) && (decide (w.crs.length ≤ 30) && (decide (w.chs.length = 3) && (decide (w.log.length ≤ 40) && (decide (w.acs.length ≤ 40) && (decide (w.lks.length ≤ 40) &&
  (w.net.all tOk && (w.wts.all wtOk && (w.crs.all crOk && (w.chs.all (fun x => chOk x.1 x.2) && w.acs.all (acOk w.lks.length)))))))))))))))
theorem RAc.pre {H H' : Hp} {a : Acp} {cs : List Value} (h : RAc H a cs) (hp : H <+: H') : RAc H' a cs := by
  obtain ⟨p, v, e, a, b⟩ := h
  exact ⟨p, v, e, a.pre hp, b.pre hp⟩
theorem RCh.pre {H H' : Hp} {a : Ch} {cs : List Value} (h : RCh H a cs) (hp : H <+: H') : RCh H' a cs := by
  obtain ⟨r, e, a⟩ := h
  exact ⟨r, e, a.pre hp⟩
theorem RWd.pre {H H' : Hp} {w : Wd} {u s l p n t k a c h e x d : Value} (q : RWd H w u s l p n t k a c h e x d) (hp : H <+: H') : RWd H' w u s l p n t k a c h e x d :=
  ⟨q.cf.pre hp, q.net.pre hp, q.tms.pre hp, q.kys.pre hp, q.wts.pre hp, q.crs.pre hp, (q.chs.pre hp).frame (fun _ _ _ h => h.pre hp) (fun _ _ _ _ _ _ => rfl), q.log.pre hp, (q.acs.pre hp).frame (fun _ _ _ h => h.pre hp) (fun _ _ _ _ _ _ => rfl), q.lks.pre hp⟩
theorem all_take {α : Type} {l : List α} {f : α → Bool} {i : Nat} (hi : i < l.length) (hn : (l.take i).all f = true) (h : f l[i] = true) : (l.take (i + 1)).all f = true := by
  rw [List.take_succ_eq_append_getElem hi, List.all_append, hn]
  simp [h]
theorem all_at {α : Type} {l : List α} {f : α → Bool} {i : Nat} (hi : i < l.length) (h : f l[i] = false) : l.all f = false := List.all_eq_false.2 ⟨_, List.getElem_mem hi, by simp [h]⟩

theorem f62_6 {H : Hp} {v : Value} {l : List Int} (hl : SlI H v l) : Scal EE 62 [v, .int .i64 6, .int .i64 3] H (.bool (l5R l 6 3)) := f62 (most := 6) hl
theorem f62_4 {H : Hp} {v : Value} {l : List Int} (hl : SlI H v l) : Scal EE 62 [v, .int .i64 4, .int .i64 3] H (.bool (l5R l 4 3)) := f62 (most := 4) hl
theorem f117_6 {H : Hp} {v : Value} {l : List Int} (hl : SlI H v l) : Scal EE 117 [v, .int .i64 6, .func (.func 118) #[] #[]] H (.bool (l5R l 6 3)) := f117 (most := 6) (k := 118) (caps := #[]) (p := fun n => inB n 0 2) hl fun n => f118
theorem f117_4 {H : Hp} {v : Value} {l : List Int} (hl : SlI H v l) : Scal EE 117 [v, .int .i64 4, .func (.func 116) #[] #[]] H (.bool (l5R l 4 3)) := f117 (most := 4) (k := 116) (caps := #[]) (p := fun n => inB n 0 2) hl fun n => f116

theorem f19 {H : Hp} {w : Wd} {u s l p n t k a c h e x d : Value} (q : RWd H w u s l p n t k a c h e x d) (z : WdZ w) : Scal EE 19 [.agg #[u, s, l, p, .int .i64 w.cf.skew, .int .i64 w.now, .int .i64 w.fresh, n, t, k, a, c, h, e, x, d]] H (.bool (wdOk w)) := by
  refine scal_ok rfl rfl k19 (by simp [c19]) rfl fun m hw => ?_
  have r1 := q.net.room; have r2 := q.wts.room; have r3 := q.crs.room; have r4 := q.chs.room; have r5 := q.acs.room
  have a55 := fun {m draw s' d' ts Q} => callT_at (m := m) (draw := draw) (s := s') (d := d') (ts := ts) (Q := Q) (f55 q.cf)
  have a56 := fun {m draw s' d' ts Q} => callT_at (m := m) (draw := draw) (s := s') (d := d') (ts := ts) (Q := Q) (f56 q.tms q.kys z.tms)
  simp only [go_sem, ↓reduceIte, Nat.reduceEqDiff, reduceCtorEq, Nat.reduceAdd, Nat.reduceLeDiff, Nat.reduceMul, c19, a55, hw]
  cases q1 : cfOk w.cf <;> simp only [go_sem, ↓reduceIte, Nat.reduceEqDiff, reduceCtorEq, Nat.reduceAdd, Nat.reduceLeDiff, Nat.reduceMul, q1, c48', hw]
  · rw [show wdOk w = false by unfold wdOk; rw [q1]; rfl]
  cases q2 : inB w.now 0 100000 <;> simp only [go_sem, ↓reduceIte, Nat.reduceEqDiff, reduceCtorEq, Nat.reduceAdd, Nat.reduceLeDiff, Nat.reduceMul, q2, c48', hw]
  · rw [show wdOk w = false by unfold wdOk; rw [q2]; simp]
  cases q3 : inB w.fresh 101 1000000 <;> simp only [go_sem, ↓reduceIte, Nat.reduceEqDiff, reduceCtorEq, Nat.reduceAdd, Nat.reduceLeDiff, Nat.reduceMul, q3, q.net.len]
  · rw [show wdOk w = false by unfold wdOk; rw [q3]; simp]
  cases q4 : decide ((w.net.length : Int) > 50) <;> simp only [go_sem, ↓reduceIte, Nat.reduceEqDiff, reduceCtorEq, Nat.reduceAdd, Nat.reduceLeDiff, Nat.reduceMul, q4, a56, hw]
  rotate_left
  · rw [show wdOk w = false by unfold wdOk; rw [decide_eq_false (show ¬ w.net.length ≤ 50 by have := of_decide_eq_true q4; omega)]; simp]
  cases q5 : knOk w.tms w.kys <;> simp only [go_sem, ↓reduceIte, Nat.reduceEqDiff, reduceCtorEq, Nat.reduceAdd, Nat.reduceLeDiff, Nat.reduceMul, q5, q.wts.len]
  · rw [show wdOk w = false by unfold wdOk; rw [q5]; simp]
  cases q6 : decide ((w.wts.length : Int) = 6) <;> simp only [go_sem, ↓reduceIte, Nat.reduceEqDiff, reduceCtorEq, Nat.reduceAdd, Nat.reduceLeDiff, Nat.reduceMul, q6, q.crs.len]
  · rw [show wdOk w = false by unfold wdOk; rw [decide_eq_false (show ¬ w.wts.length = 6 by have := of_decide_eq_false q6; omega)]; simp]
  cases q7 : decide ((w.crs.length : Int) > 30) <;> simp only [go_sem, ↓reduceIte, Nat.reduceEqDiff, reduceCtorEq, Nat.reduceAdd, Nat.reduceLeDiff, Nat.reduceMul, q7, q.chs.len]
  rotate_left
  · rw [show wdOk w = false by unfold wdOk; rw [decide_eq_false (show ¬ w.crs.length ≤ 30 by have := of_decide_eq_true q7; omega)]; simp]
  cases q8 : decide ((w.chs.length : Int) = 3) <;> simp only [go_sem, ↓reduceIte, Nat.reduceEqDiff, reduceCtorEq, Nat.reduceAdd, Nat.reduceLeDiff, Nat.reduceMul, q8, q.log.len]
  · rw [show wdOk w = false by unfold wdOk; rw [decide_eq_false (show ¬ w.chs.length = 3 by have := of_decide_eq_false q8; omega)]; simp]
  cases q9 : decide ((w.log.length : Int) > 40) <;> simp only [go_sem, ↓reduceIte, Nat.reduceEqDiff, reduceCtorEq, Nat.reduceAdd, Nat.reduceLeDiff, Nat.reduceMul, q9, q.acs.len]
  rotate_left
  · rw [show wdOk w = false by unfold wdOk; rw [decide_eq_false (show ¬ w.log.length ≤ 40 by have := of_decide_eq_true q9; omega)]; simp]
  cases q10 : decide ((w.acs.length : Int) > 40) <;> simp only [go_sem, ↓reduceIte, Nat.reduceEqDiff, reduceCtorEq, Nat.reduceAdd, Nat.reduceLeDiff, Nat.reduceMul, q10, q.lks.len]
  rotate_left
  · rw [show wdOk w = false by unfold wdOk; rw [decide_eq_false (show ¬ w.acs.length ≤ 40 by have := of_decide_eq_true q10; omega)]; simp]
  cases q11 : decide ((w.lks.length : Int) > 40) <;> simp only [go_sem, ↓reduceIte, Nat.reduceEqDiff, reduceCtorEq, Nat.reduceAdd, Nat.reduceLeDiff, Nat.reduceMul, q11]
  rotate_left
  · rw [show wdOk w = false by unfold wdOk; rw [decide_eq_false (show ¬ w.lks.length ≤ 40 by have := of_decide_eq_true q11; omega)]; simp]
  have e4 : decide (w.net.length ≤ 50) = true := decide_eq_true (by have := of_decide_eq_false q4; omega)
  have e6 : decide (w.wts.length = 6) = true := decide_eq_true (by have := of_decide_eq_true q6; omega)
  have e7 : decide (w.crs.length ≤ 30) = true := decide_eq_true (by have := of_decide_eq_false q7; omega)
  have e8 : decide (w.chs.length = 3) = true := decide_eq_true (by have := of_decide_eq_true q8; omega)
  have e9 : decide (w.log.length ≤ 40) = true := decide_eq_true (by have := of_decide_eq_false q9; omega)
  have e10 : decide (w.acs.length ≤ 40) = true := decide_eq_true (by have := of_decide_eq_false q10; omega)
  have e11 : decide (w.lks.length ≤ 40) = true := decide_eq_true (by have := of_decide_eq_false q11; omega)
  have key : wdOk w = (w.net.all tOk && (w.wts.all wtOk && (w.crs.all crOk && (w.chs.all (fun x => chOk x.1 x.2) && w.acs.all (acOk w.lks.length))))) := by
    unfold wdOk
    rw [q1, q2, q3, e4, q5, e6, e7, e8, e9, e10, e11]
    rfl
  clear q1 q2 q3 q4 q5 q6 q7 q8 q9 q10 q11 a55 a56
  refine go_for w.net.length (fun i s' => s'.H = H ∧ (∃ g, s'.ρ 1 = .bx g [u, s, l, p, .int .i64 w.cf.skew, .int .i64 w.now, .int .i64 w.fresh, n, t, k, a, c, h, e, x, d]) ∧ s'.ρ 3 = .val (.int .i64 i) ∧ (w.net.take i).all tOk = true)
    (fun s' => s'.H = H ∧ (∃ g, s'.ρ 1 = .bx g [u, s, l, p, .int .i64 w.cf.skew, .int .i64 w.now, .int .i64 w.fresh, n, t, k, a, c, h, e, x, d]) ∧ w.net.all tOk = true) (by simp [upd, ini]) ?_ ?_
  · rintro i s' hi ⟨hH, ⟨g, k1⟩, kc, hn⟩
    simp only [go_sem, ↓reduceIte, Nat.reduceEqDiff, reduceCtorEq, Nat.reduceAdd, Nat.reduceLeDiff, Nat.reduceMul, k1, kc, q.net.len]
    cases c1 : decide ((i : Int) < (w.net.length : Int)) <;> simp only [go_sem, ↓reduceIte, Nat.reduceEqDiff, reduceCtorEq, Nat.reduceAdd, Nat.reduceLeDiff, Nat.reduceMul, k1, kc, c1]
    · rw [List.take_of_length_le (by have := of_decide_eq_false c1; omega)] at hn
      exact ⟨hH, ⟨_, rfl⟩, hn⟩
    have hil : i < w.net.length := by have := of_decide_eq_true c1; omega
    have w1 := wrap64 ((i : Int) + 1) (by omega) (by omega)
    obtain ⟨id, b, o, ho, hr, hia⟩ := q.net.str (List.getElem?_eq_getElem hil)
    have ak := fun {m draw s' d' ts Q} => callT_at (m := m) (draw := draw) (s := s') (d := d') (ts := ts) (Q := Q) (f57 (H := H) (z.net _ (List.getElem_mem hil)))
    cases qa : tOk w.net[i] <;> simp only [go_sem, ↓reduceIte, Nat.reduceEqDiff, reduceCtorEq, Nat.reduceAdd, Nat.reduceLeDiff, Nat.reduceMul, k1, kc, hia, ho, hr, hH, ak, hw, qa, w1]
    · have := all_at (f := tOk) hil qa
      rw [key, this]
      try simp
    · exact ⟨hil, ⟨_, rfl⟩, by simp, all_take (f := tOk) hil hn qa⟩
  rintro s' ⟨hH, ⟨g, k1⟩, A_net⟩
  simp only [go_sem, ↓reduceIte, Nat.reduceEqDiff, reduceCtorEq, Nat.reduceAdd, Nat.reduceLeDiff, Nat.reduceMul, k1]
  refine go_for w.wts.length (fun i s' => s'.H = H ∧ (∃ g, s'.ρ 1 = .bx g [u, s, l, p, .int .i64 w.cf.skew, .int .i64 w.now, .int .i64 w.fresh, n, t, k, a, c, h, e, x, d]) ∧ s'.ρ 4 = .val (.int .i64 i) ∧ (w.wts.take i).all wtOk = true)
    (fun s' => s'.H = H ∧ (∃ g, s'.ρ 1 = .bx g [u, s, l, p, .int .i64 w.cf.skew, .int .i64 w.now, .int .i64 w.fresh, n, t, k, a, c, h, e, x, d]) ∧ w.wts.all wtOk = true) ⟨hH, ⟨g, by simp [upd, k1]⟩, by simp [upd], by simp⟩ ?_ ?_
  · rintro i s' hi ⟨hH, ⟨g, k1⟩, kc, hn⟩
    simp only [go_sem, ↓reduceIte, Nat.reduceEqDiff, reduceCtorEq, Nat.reduceAdd, Nat.reduceLeDiff, Nat.reduceMul, k1, kc, q.wts.len]
    cases c1 : decide ((i : Int) < (w.wts.length : Int)) <;> simp only [go_sem, ↓reduceIte, Nat.reduceEqDiff, reduceCtorEq, Nat.reduceAdd, Nat.reduceLeDiff, Nat.reduceMul, k1, kc, c1]
    · rw [List.take_of_length_le (by have := of_decide_eq_false c1; omega)] at hn
      exact ⟨hH, ⟨_, rfl⟩, hn⟩
    have hil : i < w.wts.length := by have := of_decide_eq_true c1; omega
    have w1 := wrap64 ((i : Int) + 1) (by omega) (by omega)
    obtain ⟨id, b, o, ho, hr, hb, hia⟩ := q.wts.elem (List.getElem?_eq_getElem hil)
    have hr : (o.drop b).take 4 = eWt w.wts[i] := hr
    unfold eWt at hr
    have ak := fun {m draw s' d' ts Q} => callT_at (m := m) (draw := draw) (s := s') (d := d') (ts := ts) (Q := Q) (f58 (H := H) (x := w.wts[i]))
    cases qa : wtOk w.wts[i] <;> simp only [go_sem, ↓reduceIte, Nat.reduceEqDiff, reduceCtorEq, Nat.reduceAdd, Nat.reduceLeDiff, Nat.reduceMul, k1, kc, hia, ho, hr, hb, hH, ak, hw, qa, w1]
    · have := all_at (f := wtOk) hil qa
      rw [key, A_net, this]
      try simp
    · exact ⟨hil, ⟨_, rfl⟩, by simp, all_take (f := wtOk) hil hn qa⟩
  rintro s' ⟨hH, ⟨g, k1⟩, A_wts⟩
  simp only [go_sem, ↓reduceIte, Nat.reduceEqDiff, reduceCtorEq, Nat.reduceAdd, Nat.reduceLeDiff, Nat.reduceMul, k1]
  refine go_for w.crs.length (fun i s' => s'.H = H ∧ (∃ g, s'.ρ 1 = .bx g [u, s, l, p, .int .i64 w.cf.skew, .int .i64 w.now, .int .i64 w.fresh, n, t, k, a, c, h, e, x, d]) ∧ s'.ρ 5 = .val (.int .i64 i) ∧ (w.crs.take i).all crOk = true)
    (fun s' => s'.H = H ∧ (∃ g, s'.ρ 1 = .bx g [u, s, l, p, .int .i64 w.cf.skew, .int .i64 w.now, .int .i64 w.fresh, n, t, k, a, c, h, e, x, d]) ∧ w.crs.all crOk = true) ⟨hH, ⟨g, by simp [upd, k1]⟩, by simp [upd], by simp⟩ ?_ ?_
  · rintro i s' hi ⟨hH, ⟨g, k1⟩, kc, hn⟩
    simp only [go_sem, ↓reduceIte, Nat.reduceEqDiff, reduceCtorEq, Nat.reduceAdd, Nat.reduceLeDiff, Nat.reduceMul, k1, kc, q.crs.len]
    cases c1 : decide ((i : Int) < (w.crs.length : Int)) <;> simp only [go_sem, ↓reduceIte, Nat.reduceEqDiff, reduceCtorEq, Nat.reduceAdd, Nat.reduceLeDiff, Nat.reduceMul, k1, kc, c1]
    · rw [List.take_of_length_le (by have := of_decide_eq_false c1; omega)] at hn
      exact ⟨hH, ⟨_, rfl⟩, hn⟩
    have hil : i < w.crs.length := by have := of_decide_eq_true c1; omega
    have w1 := wrap64 ((i : Int) + 1) (by omega) (by omega)
    obtain ⟨id, b, o, ho, hr, hb, hia⟩ := q.crs.elem (List.getElem?_eq_getElem hil)
    have hr : (o.drop b).take 8 = eCr w.crs[i] := hr
    unfold eCr at hr
    have ak := fun {m draw s' d' ts Q} => callT_at (m := m) (draw := draw) (s := s') (d := d') (ts := ts) (Q := Q) (f59 (H := H) (x := w.crs[i]) (z.crs _ (List.getElem_mem hil)).1)
    cases qa : crOk w.crs[i] <;> simp only [go_sem, ↓reduceIte, Nat.reduceEqDiff, reduceCtorEq, Nat.reduceAdd, Nat.reduceLeDiff, Nat.reduceMul, k1, kc, hia, ho, hr, hb, hH, ak, hw, qa, w1]
    · have := all_at (f := crOk) hil qa
      rw [key, A_net, A_wts, this]
      try simp
    · exact ⟨hil, ⟨_, rfl⟩, by simp, all_take (f := crOk) hil hn qa⟩
  rintro s' ⟨hH, ⟨g, k1⟩, A_crs⟩
  simp only [go_sem, ↓reduceIte, Nat.reduceEqDiff, reduceCtorEq, Nat.reduceAdd, Nat.reduceLeDiff, Nat.reduceMul, k1]
  refine go_for w.chs.length (fun i s' => s'.H = H ∧ (∃ g, s'.ρ 1 = .bx g [u, s, l, p, .int .i64 w.cf.skew, .int .i64 w.now, .int .i64 w.fresh, n, t, k, a, c, h, e, x, d]) ∧ s'.ρ 6 = .val (.int .i64 i) ∧ (w.chs.take i).all (fun x => chOk x.1 x.2) = true)
    (fun s' => s'.H = H ∧ (∃ g, s'.ρ 1 = .bx g [u, s, l, p, .int .i64 w.cf.skew, .int .i64 w.now, .int .i64 w.fresh, n, t, k, a, c, h, e, x, d]) ∧ w.chs.all (fun x => chOk x.1 x.2) = true) ⟨hH, ⟨g, by simp [upd, k1]⟩, by simp [upd], by simp⟩ ?_ ?_
  · rintro i s' hi ⟨hH, ⟨g, k1⟩, kc, hn⟩
    simp only [go_sem, ↓reduceIte, Nat.reduceEqDiff, reduceCtorEq, Nat.reduceAdd, Nat.reduceLeDiff, Nat.reduceMul, k1, kc, q.chs.len]
    cases c1 : decide ((i : Int) < (w.chs.length : Int)) <;> simp only [go_sem, ↓reduceIte, Nat.reduceEqDiff, reduceCtorEq, Nat.reduceAdd, Nat.reduceLeDiff, Nat.reduceMul, k1, kc, c1]
    · rw [List.take_of_length_le (by have := of_decide_eq_false c1; omega)] at hn
      exact ⟨hH, ⟨_, rfl⟩, hn⟩
    have hil : i < w.chs.length := by have := of_decide_eq_true c1; omega
    have w1 := wrap64 ((i : Int) + 1) (by omega) (by omega)
    obtain ⟨id, b, o, ho, ⟨rr, hr, hs⟩, hb, hia⟩ := q.chs.elem (List.getElem?_eq_getElem hil)
    have ak := fun {m draw s' d' ts Q} => callT_at (m := m) (draw := draw) (s := s') (d := d') (ts := ts) (Q := Q) (f60 (q := w.chs[i].1) hs)
    cases qa : chOk w.chs[i].1 w.chs[i].2 <;> simp only [go_sem, ↓reduceIte, Nat.reduceEqDiff, reduceCtorEq, Nat.reduceAdd, Nat.reduceLeDiff, Nat.reduceMul, k1, kc, hia, ho, hr, hb, hH, ak, hw, qa, w1]
    · have := all_at (f := (fun x => chOk x.1 x.2)) hil qa
      rw [key, A_net, A_wts, A_crs, this]
      try simp
    · exact ⟨hil, ⟨_, rfl⟩, by simp, all_take (f := (fun x => chOk x.1 x.2)) hil hn qa⟩
  rintro s' ⟨hH, ⟨g, k1⟩, A_chs⟩
  simp only [go_sem, ↓reduceIte, Nat.reduceEqDiff, reduceCtorEq, Nat.reduceAdd, Nat.reduceLeDiff, Nat.reduceMul, k1]
  have ke : wdOk w = w.acs.all (acOk w.lks.length) := by rw [key, A_net, A_wts, A_crs, A_chs]; rfl
  refine go_for w.acs.length (fun i s' => s'.H = H ∧ (∃ g, s'.ρ 1 = .bx g [u, s, l, p, .int .i64 w.cf.skew, .int .i64 w.now, .int .i64 w.fresh, n, t, k, a, c, h, e, x, d]) ∧ s'.ρ 7 = .val (.int .i64 i) ∧ (w.acs.take i).all (acOk w.lks.length) = true)
    (fun s' => s'.H = H ∧ w.acs.all (acOk w.lks.length) = true) ⟨hH, ⟨g, by simp [upd, k1]⟩, by simp [upd], by simp⟩ ?_ ?_
  · rintro i s' hi ⟨hH, ⟨g, k1⟩, kc, hn⟩
    simp only [go_sem, ↓reduceIte, Nat.reduceEqDiff, reduceCtorEq, Nat.reduceAdd, Nat.reduceLeDiff, Nat.reduceMul, k1, kc, q.acs.len]
    cases c1 : decide ((i : Int) < (w.acs.length : Int)) <;> simp only [go_sem, ↓reduceIte, Nat.reduceEqDiff, reduceCtorEq, Nat.reduceAdd, Nat.reduceLeDiff, Nat.reduceMul, k1, kc, c1]
    · rw [List.take_of_length_le (by have := of_decide_eq_false c1; omega)] at hn
      exact ⟨hH, hn⟩
    have hil : i < w.acs.length := by have := of_decide_eq_true c1; omega
    have w1 := wrap64 ((i : Int) + 1) (by omega) (by omega)
    obtain ⟨id, b, o, ho, ⟨pp, pv, hr, hs1, hs2⟩, hb, hia⟩ := q.acs.elem (List.getElem?_eq_getElem hil)
    have ap := fun {m draw s' d' ts Q} => callT_at (m := m) (draw := draw) (s := s') (d := d') (ts := ts) (Q := Q) (f62_6 hs1)
    have av := fun {m draw s' d' ts Q} => callT_at (m := m) (draw := draw) (s := s') (d := d') (ts := ts) (Q := Q) (f62_4 hs2)
    simp only [go_sem, ↓reduceIte, Nat.reduceEqDiff, reduceCtorEq, Nat.reduceAdd, Nat.reduceLeDiff, Nat.reduceMul, k1, kc, hia, ho, hr, hb, hH, c48', hw]
    cases b1 : inB w.acs[i].sv 0 2 <;> simp only [go_sem, ↓reduceIte, Nat.reduceEqDiff, reduceCtorEq, Nat.reduceAdd, Nat.reduceLeDiff, Nat.reduceMul, k1, kc, b1, c61', hw]
    · rw [ke, all_at hil (by unfold acOk; rw [b1]; rfl)]
    cases b2 : inB w.acs[i].cl 0 5 <;> simp only [go_sem, ↓reduceIte, Nat.reduceEqDiff, reduceCtorEq, Nat.reduceAdd, Nat.reduceLeDiff, Nat.reduceMul, k1, kc, b2, c48', hw, q.lks.len]
    · rw [ke, all_at hil (by unfold acOk; rw [b2]; simp)]
    cases b3 : inB w.acs[i].lk 0 w.lks.length <;> simp only [go_sem, ↓reduceIte, Nat.reduceEqDiff, reduceCtorEq, Nat.reduceAdd, Nat.reduceLeDiff, Nat.reduceMul, k1, kc, b3, ap, hw]
    · rw [ke, all_at hil (by unfold acOk; rw [b3]; simp)]
    cases b4 : l5R w.acs[i].pa 6 3 <;> simp only [go_sem, ↓reduceIte, Nat.reduceEqDiff, reduceCtorEq, Nat.reduceAdd, Nat.reduceLeDiff, Nat.reduceMul, k1, kc, b4, av, hw]
    · rw [ke, all_at hil (by unfold acOk; rw [b4]; simp)]
    cases b5 : l5R w.acs[i].vi 4 3 <;> simp only [go_sem, ↓reduceIte, Nat.reduceEqDiff, reduceCtorEq, Nat.reduceAdd, Nat.reduceLeDiff, Nat.reduceMul, k1, kc, b5, w1]
    · rw [ke, all_at hil (by unfold acOk; rw [b5]; simp)]
    · exact ⟨hil, ⟨_, rfl⟩, by simp, all_take hil hn (by unfold acOk; rw [b1, b2, b3, b4, b5]; rfl)⟩
  rintro s' ⟨hH, hA⟩
  simp only [go_sem, ↓reduceIte, Nat.reduceEqDiff, reduceCtorEq, Nat.reduceAdd, Nat.reduceLeDiff, Nat.reduceMul, hH, ke, hA]
end Go.Proofs.YtglboiahgpfjdaaGreat.Ev

/- A world: is it right? The program's way. -/
namespace Go.Proofs.YtglboiahgpfjdaaGreat.Ev
set_option linter.all false
open Go
set_option maxRecDepth 4000

theorem f76 {H : Hp} {a : Acp} {cs : List Value} {n : Int} (h : RAc H a cs) : Scal EE 76 [.agg cs.toArray, .int .i64 n] H (.bool (acOk n a)) := by
  obtain ⟨pp, pv, e, hs1, hs2⟩ := h
  subst e
  refine scal_ok rfl rfl k76 (by simp [c76]) rfl fun m hw => ?_
  have ap := fun {m draw s' d' ts Q} => callT_at (m := m) (draw := draw) (s := s') (d := d') (ts := ts) (Q := Q) (f117_6 hs1)
  have av := fun {m draw s' d' ts Q} => callT_at (m := m) (draw := draw) (s := s') (d := d') (ts := ts) (Q := Q) (f117_4 hs2)
  simp only [go_sem, ↓reduceIte, Nat.reduceEqDiff, reduceCtorEq, Nat.reduceAdd, Nat.reduceLeDiff, Nat.reduceMul, c76, c116', hw]
  cases b1 : inB a.sv 0 2 <;> simp only [go_sem, ↓reduceIte, Nat.reduceEqDiff, reduceCtorEq, Nat.reduceAdd, Nat.reduceLeDiff, Nat.reduceMul, b1, c111', hw]
  · rw [show acOk n a = false by unfold acOk; rw [b1]; rfl]
  cases b2 : inB a.cl 0 5 <;> simp only [go_sem, ↓reduceIte, Nat.reduceEqDiff, reduceCtorEq, Nat.reduceAdd, Nat.reduceLeDiff, Nat.reduceMul, b2, c82', hw]
  · rw [show acOk n a = false by unfold acOk; rw [b2]; simp]
  cases b3 : inB a.lk 0 n <;> simp only [go_sem, ↓reduceIte, Nat.reduceEqDiff, reduceCtorEq, Nat.reduceAdd, Nat.reduceLeDiff, Nat.reduceMul, b3, ap, hw]
  · rw [show acOk n a = false by unfold acOk; rw [b3]; simp]
  cases b4 : l5R a.pa 6 3 <;> simp only [go_sem, ↓reduceIte, Nat.reduceEqDiff, reduceCtorEq, Nat.reduceAdd, Nat.reduceLeDiff, Nat.reduceMul, b4, av, hw]
  · rw [show acOk n a = false by unfold acOk; rw [b4]; simp]
  · rw [show acOk n a = l5R a.vi 4 3 by unfold acOk; rw [b1, b2, b3, b4]; rfl]
theorem f78 {H : Hp} {s : ByteArray} (hs : s.size ≤ 4611686018427387904) : Scal EE 78 [.string s] H (.bool (!tOk s)) := by
  refine scal_ok rfl rfl k78 (by simp [c78]) rfl fun m hw => ?_
  have ak := fun {m draw s' d' ts Q} => callT_at (m := m) (draw := draw) (s := s') (d := d') (ts := ts) (Q := Q) (f79 (H := H) hs)
  simp only [go_sem, ↓reduceIte, Nat.reduceEqDiff, reduceCtorEq, Nat.reduceAdd, Nat.reduceLeDiff, Nat.reduceMul, c78, ak, hw]
theorem f119m {H : Hp} {v : Value} {l : List ByteArray} {k : Nat} {caps : Array Value} {p : ByteArray → Bool} (hl : SlS H v l) (hk : ∀ a ∈ l, Scal EE k ([.string a] ++ caps.toList) H (.bool (p a))) : ScalP EE 119 [v, .func (.func k) #[] caps] H fun r => ∃ n : Int, r = .int .i64 n ∧ IdxR l p n := by
  refine scalP_ok rfl rfl k119 (by simp [c119]) fun m hw => ?_
  have hroom := hl.room
  simp only [go_sem, ↓reduceIte, Nat.reduceEqDiff, reduceCtorEq, Nat.reduceAdd, Nat.reduceLeDiff, Nat.reduceMul, c119, hl.len]
  refine go_for l.length (fun i s => s.H = H ∧ s.ρ 0 = .val v ∧ s.ρ 1 = .val (.func (.func k) #[] caps) ∧ s.ρ 7 = .val (.int .i64 l.length) ∧ s.ρ 8 = .val (.int .i64 i) ∧ ∀ a ∈ l.take i, p a = false) (fun s => s.H = H ∧ ∀ a ∈ l, p a = false) (by simp [upd, ini]) ?_ ?_
  · rintro i s hi ⟨hH, k0, k1, k7, k8, hn⟩
    simp only [go_sem, ↓reduceIte, Nat.reduceEqDiff, reduceCtorEq, Nat.reduceAdd, Nat.reduceLeDiff, Nat.reduceMul, k0, k1, k7, k8]
    cases c1 : decide ((i : Int) < (l.length : Int)) <;> simp only [go_sem, ↓reduceIte, Nat.reduceEqDiff, reduceCtorEq, Nat.reduceAdd, Nat.reduceLeDiff, Nat.reduceMul, k0, k1, k7, k8, c1]
    · have : i = l.length := by have := of_decide_eq_false c1; omega
      subst this
      rw [List.take_length] at hn
      exact ⟨hH, hn⟩
    have hil : i < l.length := by have := of_decide_eq_true c1; omega
    have w1 := wrap64 ((i : Int) + 1) (by omega) (by omega)
    obtain ⟨id, q, o, ho, hr, hia⟩ := hl.str (List.getElem?_eq_getElem hil)
    have ak := fun {m draw s d ts Q} => callT_at (m := m) (draw := draw) (s := s) (d := d) (ts := ts) (Q := Q) (hk _ (List.getElem_mem hil))
    simp only [List.singleton_append] at ak
    simp only [go_sem, ↓reduceIte, Nat.reduceEqDiff, reduceCtorEq, Nat.reduceAdd, Nat.reduceLeDiff, Nat.reduceMul, k0, k1, k7, k8, hia, hH, ho, hr, ak, hw]
    cases q2 : p l[i] <;> simp only [go_sem, ↓reduceIte, Nat.reduceEqDiff, reduceCtorEq, Nat.reduceAdd, Nat.reduceLeDiff, Nat.reduceMul, k0, k1, k7, k8, q2, w1]
    · exact ⟨hil, by simp, none_succ hil hn q2⟩
    · exact ⟨_, rfl, .inr ⟨i, hil, rfl, q2, hn⟩⟩
  · rintro s ⟨hH, hn⟩
    simp only [go_sem, ↓reduceIte, Nat.reduceEqDiff, reduceCtorEq, Nat.reduceAdd, Nat.reduceLeDiff, Nat.reduceMul, hH]
    exact ⟨-1, rfl, .inl ⟨rfl, hn⟩⟩
theorem f77m {H : Hp} {v : Value} {l : List ByteArray} (hl : SlS H v l) (hz : ∀ z ∈ l, z.size ≤ 4611686018427387904) : Scal EE 77 [v, .func (.func 78) #[] #[]] H (.bool (!l.all tOk)) := by
  refine scal_ok rfl rfl k77 (by simp [c77]) rfl fun m hw => ?_
  simp only [go_sem, ↓reduceIte, Nat.reduceEqDiff, reduceCtorEq, Nat.reduceAdd, Nat.reduceLeDiff, Nat.reduceMul, c77]
  refine callT_to (fun m' h => f119m (p := fun z => !tOk z) hl (fun z hm => f78 (hz z hm)) m' h) rfl hw fun r H' ⟨⟨n, e, hn⟩, e2⟩ => ?_
  subst e; subst e2
  simp only [go_sem, ↓reduceIte, Nat.reduceEqDiff, reduceCtorEq, Nat.reduceAdd, Nat.reduceLeDiff, Nat.reduceMul, hn.any]
  rw [List.not_all_eq_any_not]

theorem f38 {H : Hp} {w : Wd} {u s l p n t k a c h e x d : Value} (q : RWd H w u s l p n t k a c h e x d) (z : WdZ w) : Scal EE 38 [.agg #[u, s, l, p, .int .i64 w.cf.skew, .int .i64 w.now, .int .i64 w.fresh, n, t, k, a, c, h, e, x, d]] H (.bool (wdOk w)) := by
  refine scal_ok rfl rfl k38 (by simp [c38]) rfl fun m hw => ?_
  have r1 := q.net.room; have r2 := q.wts.room; have r3 := q.crs.room; have r4 := q.chs.room; have r5 := q.acs.room
  have a80 := fun {m draw s' d' ts Q} => callT_at (m := m) (draw := draw) (s := s') (d := d') (ts := ts) (Q := Q) (f80 q.cf)
  have a83 := fun {m draw s' d' ts Q} => callT_at (m := m) (draw := draw) (s := s') (d := d') (ts := ts) (Q := Q) (f83 q.tms q.kys z.tms)
  have a77 := fun {m draw s' d' ts Q} => callT_at (m := m) (draw := draw) (s := s') (d := d') (ts := ts) (Q := Q) (f77m q.net z.net)
  simp only [go_sem, ↓reduceIte, Nat.reduceEqDiff, reduceCtorEq, Nat.reduceAdd, Nat.reduceLeDiff, Nat.reduceMul, c38, q.wts.len]
  refine go_for w.wts.length (fun i s' => s'.H = H ∧ (∃ g, s'.ρ 1 = .bx g [u, s, l, p, .int .i64 w.cf.skew, .int .i64 w.now, .int .i64 w.fresh, n, t, k, a, c, h, e, x, d]) ∧ s'.ρ 12 = .val a ∧ s'.ρ 13 = .val (.int .i64 w.wts.length) ∧ s'.ρ 14 = .val (.int .i64 i) ∧ (w.wts.take i).all wtOk = true)
    (fun s' => s'.H = H ∧ (∃ g, s'.ρ 1 = .bx g [u, s, l, p, .int .i64 w.cf.skew, .int .i64 w.now, .int .i64 w.fresh, n, t, k, a, c, h, e, x, d]) ∧ w.wts.all wtOk = true) (by simp [upd, ini]) ?_ ?_
  · rintro i s' hi ⟨hH, ⟨g, k1⟩, kl, kn, kc, hn⟩
    simp only [go_sem, ↓reduceIte, Nat.reduceEqDiff, reduceCtorEq, Nat.reduceAdd, Nat.reduceLeDiff, Nat.reduceMul, k1, kl, kn, kc]
    cases c1 : decide ((i : Int) < (w.wts.length : Int)) <;> simp only [go_sem, ↓reduceIte, Nat.reduceEqDiff, reduceCtorEq, Nat.reduceAdd, Nat.reduceLeDiff, Nat.reduceMul, k1, kl, kn, kc, c1]
    · rw [List.take_of_length_le (by have := of_decide_eq_false c1; omega)] at hn
      exact ⟨hH, ⟨_, rfl⟩, hn⟩
    have hil : i < w.wts.length := by have := of_decide_eq_true c1; omega
    have w1 := wrap64 ((i : Int) + 1) (by omega) (by omega)
    obtain ⟨id, b, o, ho, hr, hb, hia⟩ := q.wts.elem (List.getElem?_eq_getElem hil)
    have hr : (o.drop b).take 4 = eWt w.wts[i] := hr
    unfold eWt at hr
    have ak := fun {m draw s' d' ts Q} => callT_at (m := m) (draw := draw) (s := s') (d := d') (ts := ts) (Q := Q) (f73 (H := H) (x := w.wts[i]))
    cases qa : wtOk w.wts[i] <;> simp only [go_sem, ↓reduceIte, Nat.reduceEqDiff, reduceCtorEq, Nat.reduceAdd, Nat.reduceLeDiff, Nat.reduceMul, k1, kl, kn, kc, hia, ho, hr, hb, hH, ak, hw, qa, w1, q.lks.len]
    · have := all_at (f := wtOk) hil qa
      rw [show wdOk w = false by unfold wdOk; rw [this]; simp]
    · exact ⟨hil, ⟨_, rfl⟩, by simp, all_take (f := wtOk) hil hn qa⟩
  rintro s' ⟨hH, ⟨g, k1⟩, A_wts⟩
  simp only [go_sem, ↓reduceIte, Nat.reduceEqDiff, reduceCtorEq, Nat.reduceAdd, Nat.reduceLeDiff, Nat.reduceMul, k1, q.crs.len]
  refine go_for w.crs.length (fun i s' => s'.H = H ∧ (∃ g, s'.ρ 1 = .bx g [u, s, l, p, .int .i64 w.cf.skew, .int .i64 w.now, .int .i64 w.fresh, n, t, k, a, c, h, e, x, d]) ∧ s'.ρ 23 = .val c ∧ s'.ρ 24 = .val (.int .i64 w.crs.length) ∧ s'.ρ 25 = .val (.int .i64 i) ∧ (w.crs.take i).all crOk = true)
    (fun s' => s'.H = H ∧ (∃ g, s'.ρ 1 = .bx g [u, s, l, p, .int .i64 w.cf.skew, .int .i64 w.now, .int .i64 w.fresh, n, t, k, a, c, h, e, x, d]) ∧ w.crs.all crOk = true) ⟨hH, ⟨g, by simp [upd, k1]⟩, by simp [upd], by simp [upd], by simp [upd], by simp⟩ ?_ ?_
  · rintro i s' hi ⟨hH, ⟨g, k1⟩, kl, kn, kc, hn⟩
    simp only [go_sem, ↓reduceIte, Nat.reduceEqDiff, reduceCtorEq, Nat.reduceAdd, Nat.reduceLeDiff, Nat.reduceMul, k1, kl, kn, kc]
    cases c1 : decide ((i : Int) < (w.crs.length : Int)) <;> simp only [go_sem, ↓reduceIte, Nat.reduceEqDiff, reduceCtorEq, Nat.reduceAdd, Nat.reduceLeDiff, Nat.reduceMul, k1, kl, kn, kc, c1]
    · rw [List.take_of_length_le (by have := of_decide_eq_false c1; omega)] at hn
      exact ⟨hH, ⟨_, rfl⟩, hn⟩
    have hil : i < w.crs.length := by have := of_decide_eq_true c1; omega
    have w1 := wrap64 ((i : Int) + 1) (by omega) (by omega)
    obtain ⟨id, b, o, ho, hr, hb, hia⟩ := q.crs.elem (List.getElem?_eq_getElem hil)
    have hr : (o.drop b).take 8 = eCr w.crs[i] := hr
    unfold eCr at hr
    have ak := fun {m draw s' d' ts Q} => callT_at (m := m) (draw := draw) (s := s') (d := d') (ts := ts) (Q := Q) (f74 (H := H) (x := w.crs[i]) (z.crs _ (List.getElem_mem hil)).1 (z.crs _ (List.getElem_mem hil)).2)
    cases qa : crOk w.crs[i] <;> simp only [go_sem, ↓reduceIte, Nat.reduceEqDiff, reduceCtorEq, Nat.reduceAdd, Nat.reduceLeDiff, Nat.reduceMul, k1, kl, kn, kc, hia, ho, hr, hb, hH, ak, hw, qa, w1, q.lks.len]
    · have := all_at (f := crOk) hil qa
      rw [show wdOk w = false by unfold wdOk; rw [this]; simp]
    · exact ⟨hil, ⟨_, rfl⟩, by simp, all_take (f := crOk) hil hn qa⟩
  rintro s' ⟨hH, ⟨g, k1⟩, A_crs⟩
  simp only [go_sem, ↓reduceIte, Nat.reduceEqDiff, reduceCtorEq, Nat.reduceAdd, Nat.reduceLeDiff, Nat.reduceMul, k1, q.chs.len]
  refine go_for w.chs.length (fun i s' => s'.H = H ∧ (∃ g, s'.ρ 1 = .bx g [u, s, l, p, .int .i64 w.cf.skew, .int .i64 w.now, .int .i64 w.fresh, n, t, k, a, c, h, e, x, d]) ∧ s'.ρ 34 = .val h ∧ s'.ρ 35 = .val (.int .i64 w.chs.length) ∧ s'.ρ 36 = .val (.int .i64 i) ∧ (w.chs.take i).all (fun x => chOk x.1 x.2) = true)
    (fun s' => s'.H = H ∧ (∃ g, s'.ρ 1 = .bx g [u, s, l, p, .int .i64 w.cf.skew, .int .i64 w.now, .int .i64 w.fresh, n, t, k, a, c, h, e, x, d]) ∧ w.chs.all (fun x => chOk x.1 x.2) = true) ⟨hH, ⟨g, by simp [upd, k1]⟩, by simp [upd], by simp [upd], by simp [upd], by simp⟩ ?_ ?_
  · rintro i s' hi ⟨hH, ⟨g, k1⟩, kl, kn, kc, hn⟩
    simp only [go_sem, ↓reduceIte, Nat.reduceEqDiff, reduceCtorEq, Nat.reduceAdd, Nat.reduceLeDiff, Nat.reduceMul, k1, kl, kn, kc]
    cases c1 : decide ((i : Int) < (w.chs.length : Int)) <;> simp only [go_sem, ↓reduceIte, Nat.reduceEqDiff, reduceCtorEq, Nat.reduceAdd, Nat.reduceLeDiff, Nat.reduceMul, k1, kl, kn, kc, c1]
    · rw [List.take_of_length_le (by have := of_decide_eq_false c1; omega)] at hn
      exact ⟨hH, ⟨_, rfl⟩, hn⟩
    have hil : i < w.chs.length := by have := of_decide_eq_true c1; omega
    have w1 := wrap64 ((i : Int) + 1) (by omega) (by omega)
    obtain ⟨id, b, o, ho, ⟨rr, hr, hs⟩, hb, hia⟩ := q.chs.elem (List.getElem?_eq_getElem hil)
    have ak := fun {m draw s' d' ts Q} => callT_at (m := m) (draw := draw) (s := s') (d := d') (ts := ts) (Q := Q) (f75 (q := w.chs[i].1) hs)
    cases qa : chOk w.chs[i].1 w.chs[i].2 <;> simp only [go_sem, ↓reduceIte, Nat.reduceEqDiff, reduceCtorEq, Nat.reduceAdd, Nat.reduceLeDiff, Nat.reduceMul, k1, kl, kn, kc, hia, ho, hr, hb, hH, ak, hw, qa, w1, q.lks.len]
    · have := all_at (f := (fun x => chOk x.1 x.2)) hil qa
      rw [show wdOk w = false by unfold wdOk; rw [this]; simp]
    · exact ⟨hil, ⟨_, rfl⟩, by simp, all_take (f := (fun x => chOk x.1 x.2)) hil hn qa⟩
  rintro s' ⟨hH, ⟨g, k1⟩, A_chs⟩
  simp only [go_sem, ↓reduceIte, Nat.reduceEqDiff, reduceCtorEq, Nat.reduceAdd, Nat.reduceLeDiff, Nat.reduceMul, k1, q.acs.len]
  refine go_for w.acs.length (fun i s' => s'.H = H ∧ (∃ g, s'.ρ 1 = .bx g [u, s, l, p, .int .i64 w.cf.skew, .int .i64 w.now, .int .i64 w.fresh, n, t, k, a, c, h, e, x, d]) ∧ s'.ρ 45 = .val x ∧ s'.ρ 46 = .val (.int .i64 w.acs.length) ∧ s'.ρ 47 = .val (.int .i64 i) ∧ (w.acs.take i).all (acOk w.lks.length) = true)
    (fun s' => s'.H = H ∧ (∃ g, s'.ρ 1 = .bx g [u, s, l, p, .int .i64 w.cf.skew, .int .i64 w.now, .int .i64 w.fresh, n, t, k, a, c, h, e, x, d]) ∧ w.acs.all (acOk w.lks.length) = true) ⟨hH, ⟨g, by simp [upd, k1]⟩, by simp [upd], by simp [upd], by simp [upd], by simp⟩ ?_ ?_
  · rintro i s' hi ⟨hH, ⟨g, k1⟩, kl, kn, kc, hn⟩
    simp only [go_sem, ↓reduceIte, Nat.reduceEqDiff, reduceCtorEq, Nat.reduceAdd, Nat.reduceLeDiff, Nat.reduceMul, k1, kl, kn, kc]
    cases c1 : decide ((i : Int) < (w.acs.length : Int)) <;> simp only [go_sem, ↓reduceIte, Nat.reduceEqDiff, reduceCtorEq, Nat.reduceAdd, Nat.reduceLeDiff, Nat.reduceMul, k1, kl, kn, kc, c1]
    · rw [List.take_of_length_le (by have := of_decide_eq_false c1; omega)] at hn
      exact ⟨hH, ⟨_, rfl⟩, hn⟩
    have hil : i < w.acs.length := by have := of_decide_eq_true c1; omega
    have w1 := wrap64 ((i : Int) + 1) (by omega) (by omega)
    obtain ⟨id, b, o, ho, hrr, hb, hia⟩ := q.acs.elem (List.getElem?_eq_getElem hil)
    have ak := fun {m draw s' d' ts Q} => callT_at (m := m) (draw := draw) (s := s') (d := d') (ts := ts) (Q := Q) (f76 (n := w.lks.length) hrr)
    obtain ⟨pp, pv, hr, hs1, hs2⟩ := hrr
    rw [hr] at ak
    simp only [List.toArray] at ak
    cases qa : acOk w.lks.length w.acs[i] <;> simp only [go_sem, ↓reduceIte, Nat.reduceEqDiff, reduceCtorEq, Nat.reduceAdd, Nat.reduceLeDiff, Nat.reduceMul, k1, kl, kn, kc, hia, ho, hr, hb, hH, ak, hw, qa, w1, q.lks.len]
    · have := all_at (f := (acOk w.lks.length)) hil qa
      rw [show wdOk w = false by unfold wdOk; rw [this]; simp]
    · exact ⟨hil, ⟨_, rfl⟩, by simp, all_take (f := (acOk w.lks.length)) hil hn qa⟩
  rintro s' ⟨hH, ⟨g, k1⟩, A_acs⟩
  simp only [go_sem, ↓reduceIte, Nat.reduceEqDiff, reduceCtorEq, Nat.reduceAdd, Nat.reduceLeDiff, Nat.reduceMul, k1, a77, hH, hw]
  cases q0 : w.net.all tOk <;> simp only [go_sem, ↓reduceIte, Nat.reduceEqDiff, reduceCtorEq, Nat.reduceAdd, Nat.reduceLeDiff, Nat.reduceMul, q0, k1, q.net.len]
  · rw [show wdOk w = false by unfold wdOk; rw [q0]; simp]
  cases q4 : decide ((w.net.length : Int) > 50) <;> simp only [go_sem, ↓reduceIte, Nat.reduceEqDiff, reduceCtorEq, Nat.reduceAdd, Nat.reduceLeDiff, Nat.reduceMul, q4, k1, a80, hw]
  rotate_left
  · rw [show wdOk w = false by unfold wdOk; rw [decide_eq_false (show ¬ w.net.length ≤ 50 by have := of_decide_eq_true q4; omega)]; simp]
  cases q1 : cfOk w.cf <;> simp only [go_sem, ↓reduceIte, Nat.reduceEqDiff, reduceCtorEq, Nat.reduceAdd, Nat.reduceLeDiff, Nat.reduceMul, q1, k1, c81', hw]
  · rw [show wdOk w = false by unfold wdOk; rw [q1]; rfl]
  cases q2 : inB w.now 0 100000 <;> simp only [go_sem, ↓reduceIte, Nat.reduceEqDiff, reduceCtorEq, Nat.reduceAdd, Nat.reduceLeDiff, Nat.reduceMul, q2, k1, c82', hw]
  · rw [show wdOk w = false by unfold wdOk; rw [q2]; simp]
  cases q3 : inB w.fresh 101 1000000 <;> simp only [go_sem, ↓reduceIte, Nat.reduceEqDiff, reduceCtorEq, Nat.reduceAdd, Nat.reduceLeDiff, Nat.reduceMul, q3, k1, a83, hw]
  · rw [show wdOk w = false by unfold wdOk; rw [q3]; simp]
  cases q5 : knOk w.tms w.kys <;> simp only [go_sem, ↓reduceIte, Nat.reduceEqDiff, reduceCtorEq, Nat.reduceAdd, Nat.reduceLeDiff, Nat.reduceMul, q5, k1, q.wts.len]
  · rw [show wdOk w = false by unfold wdOk; rw [q5]; simp]
  cases q6 : decide ((w.wts.length : Int) = 6) <;> simp only [go_sem, ↓reduceIte, Nat.reduceEqDiff, reduceCtorEq, Nat.reduceAdd, Nat.reduceLeDiff, Nat.reduceMul, q6, k1, q.crs.len]
  · rw [show wdOk w = false by unfold wdOk; rw [decide_eq_false (show ¬ w.wts.length = 6 by have := of_decide_eq_false q6; omega)]; simp]
  cases q7 : decide ((w.crs.length : Int) ≤ 30) <;> simp only [go_sem, ↓reduceIte, Nat.reduceEqDiff, reduceCtorEq, Nat.reduceAdd, Nat.reduceLeDiff, Nat.reduceMul, q7, k1, q.chs.len]
  · rw [show wdOk w = false by unfold wdOk; rw [decide_eq_false (show ¬ w.crs.length ≤ 30 by have := of_decide_eq_false q7; omega)]; simp]
  cases q8 : decide ((w.chs.length : Int) = 3) <;> simp only [go_sem, ↓reduceIte, Nat.reduceEqDiff, reduceCtorEq, Nat.reduceAdd, Nat.reduceLeDiff, Nat.reduceMul, q8, k1, q.log.len]
  · rw [show wdOk w = false by unfold wdOk; rw [decide_eq_false (show ¬ w.chs.length = 3 by have := of_decide_eq_false q8; omega)]; simp]
  cases q9 : decide ((w.log.length : Int) ≤ 40) <;> simp only [go_sem, ↓reduceIte, Nat.reduceEqDiff, reduceCtorEq, Nat.reduceAdd, Nat.reduceLeDiff, Nat.reduceMul, q9, k1, q.acs.len]
  · rw [show wdOk w = false by unfold wdOk; rw [decide_eq_false (show ¬ w.log.length ≤ 40 by have := of_decide_eq_false q9; omega)]; simp]
  cases q10 : decide ((w.acs.length : Int) ≤ 40) <;> simp only [go_sem, ↓reduceIte, Nat.reduceEqDiff, reduceCtorEq, Nat.reduceAdd, Nat.reduceLeDiff, Nat.reduceMul, q10, k1, q.lks.len]
  · rw [show wdOk w = false by unfold wdOk; rw [decide_eq_false (show ¬ w.acs.length ≤ 40 by have := of_decide_eq_false q10; omega)]; simp]
  have e4 : decide (w.net.length ≤ 50) = true := decide_eq_true (by have := of_decide_eq_false q4; omega)
  have e6 : decide (w.wts.length = 6) = true := decide_eq_true (by have := of_decide_eq_true q6; omega)
  have e7 : decide (w.crs.length ≤ 30) = true := decide_eq_true (by have := of_decide_eq_true q7; omega)
  have e8 : decide (w.chs.length = 3) = true := decide_eq_true (by have := of_decide_eq_true q8; omega)
  have e9 : decide (w.log.length ≤ 40) = true := decide_eq_true (by have := of_decide_eq_true q9; omega)
  have e10 : decide (w.acs.length ≤ 40) = true := decide_eq_true (by have := of_decide_eq_true q10; omega)
  have e11 : decide ((w.lks.length : Int) ≤ 40) = decide (w.lks.length ≤ 40) := by rw [decide_eq_decide]; omega
  rw [e11]
  unfold wdOk
  rw [q1, q2, q3, e4, q5, e6, e7, e8, e9, e10, q0, A_wts, A_crs, A_chs, A_acs]
  simp
end Go.Proofs.YtglboiahgpfjdaaGreat.Ev

/- How large a world is. -/
namespace Go.Proofs.YtglboiahgpfjdaaGreat.Ev
set_option linter.all false
open Go
set_option maxRecDepth 4000

theorem f28 {α : Type} {R : α → List Value → Prop} {H : Hp} {v : Value} {l : List α} {left : Int} (hl : Sl R 1 H v l) (h0 : 0 ≤ left) (h1 : left ≤ 1048576) : ScalP EE 28 [v, .int .i64 left] H fun r => ∃ n : Int, r = .int .i64 n ∧ (0 ≤ n → n ≤ 1048576 ∧ l.length ≤ 1048576) := by
  refine scalP_ok rfl rfl k28 (by simp [c28]) fun m hw => ?_
  have hroom := hl.room
  simp only [go_sem, ↓reduceIte, Nat.reduceEqDiff, reduceCtorEq, Nat.reduceAdd, Nat.reduceLeDiff, Nat.reduceMul, c28, hl.len, wrap64 (left - (l.length : Int)) (by omega) (by omega)]
  refine brT.intro (fun q1 => ?_) (fun q1 => ?_) <;> simp only [go_sem, ↓reduceIte, Nat.reduceEqDiff, reduceCtorEq, Nat.reduceAdd, Nat.reduceLeDiff, Nat.reduceMul]
  · exact ⟨-1, rfl, fun h => by omega⟩
  · have := of_decide_eq_false q1
    exact ⟨_, rfl, fun h => ⟨by omega, by omega⟩⟩
theorem f63 {α : Type} {R : α → List Value → Prop} {H : Hp} {v : Value} {l : List α} {left : Int} (hl : Sl R 2 H v l) (h0 : 0 ≤ left) (h1 : left ≤ 1048576) : ScalP EE 63 [v, .int .i64 left] H fun r => ∃ n : Int, r = .int .i64 n ∧ (0 ≤ n → n ≤ 1048576 ∧ l.length ≤ 1048576) := by
  refine scalP_ok rfl rfl k63 (by simp [c63]) fun m hw => ?_
  have hroom := hl.room
  simp only [go_sem, ↓reduceIte, Nat.reduceEqDiff, reduceCtorEq, Nat.reduceAdd, Nat.reduceLeDiff, Nat.reduceMul, c63, hl.len, wrap64 (left - (l.length : Int)) (by omega) (by omega)]
  refine brT.intro (fun q1 => ?_) (fun q1 => ?_) <;> simp only [go_sem, ↓reduceIte, Nat.reduceEqDiff, reduceCtorEq, Nat.reduceAdd, Nat.reduceLeDiff, Nat.reduceMul]
  · exact ⟨-1, rfl, fun h => by omega⟩
  · have := of_decide_eq_false q1
    exact ⟨_, rfl, fun h => ⟨by omega, by omega⟩⟩
theorem f23 {α : Type} {R : α → List Value → Prop} {H : Hp} {v : Value} {l : List α} {left : Int} (hl : Sl R 4 H v l) (h0 : 0 ≤ left) (h1 : left ≤ 1048576) : ScalP EE 23 [v, .int .i64 left] H fun r => ∃ n : Int, r = .int .i64 n ∧ (0 ≤ n → n ≤ 1048576 ∧ l.length ≤ 1048576) := by
  refine scalP_ok rfl rfl k23 (by simp [c23]) fun m hw => ?_
  have hroom := hl.room
  simp only [go_sem, ↓reduceIte, Nat.reduceEqDiff, reduceCtorEq, Nat.reduceAdd, Nat.reduceLeDiff, Nat.reduceMul, c23, hl.len, wrap64 (left - (l.length : Int)) (by omega) (by omega)]
  refine brT.intro (fun q1 => ?_) (fun q1 => ?_) <;> simp only [go_sem, ↓reduceIte, Nat.reduceEqDiff, reduceCtorEq, Nat.reduceAdd, Nat.reduceLeDiff, Nat.reduceMul]
  · exact ⟨-1, rfl, fun h => by omega⟩
  · have := of_decide_eq_false q1
    exact ⟨_, rfl, fun h => ⟨by omega, by omega⟩⟩
theorem f26 {α : Type} {R : α → List Value → Prop} {H : Hp} {v : Value} {l : List α} {left : Int} (hl : Sl R 11 H v l) (h0 : 0 ≤ left) (h1 : left ≤ 1048576) : ScalP EE 26 [v, .int .i64 left] H fun r => ∃ n : Int, r = .int .i64 n ∧ (0 ≤ n → n ≤ 1048576 ∧ l.length ≤ 1048576) := by
  refine scalP_ok rfl rfl k26 (by simp [c26]) fun m hw => ?_
  have hroom := hl.room
  simp only [go_sem, ↓reduceIte, Nat.reduceEqDiff, reduceCtorEq, Nat.reduceAdd, Nat.reduceLeDiff, Nat.reduceMul, c26, hl.len, wrap64 (left - (l.length : Int)) (by omega) (by omega)]
  refine brT.intro (fun q1 => ?_) (fun q1 => ?_) <;> simp only [go_sem, ↓reduceIte, Nat.reduceEqDiff, reduceCtorEq, Nat.reduceAdd, Nat.reduceLeDiff, Nat.reduceMul]
  · exact ⟨-1, rfl, fun h => by omega⟩
  · have := of_decide_eq_false q1
    exact ⟨_, rfl, fun h => ⟨by omega, by omega⟩⟩
theorem f104 {α : Type} {R : α → List Value → Prop} {H : Hp} {v : Value} {l : List α} {left : Int} (hl : Sl R 3 H v l) (h0 : 0 ≤ left) (h1 : left ≤ 1048576) : ScalP EE 104 [v, .int .i64 left] H fun r => ∃ n : Int, r = .int .i64 n ∧ (0 ≤ n → n ≤ 1048576 ∧ l.length ≤ 1048576) := by
  refine scalP_ok rfl rfl k104 (by simp [c104]) fun m hw => ?_
  have hroom := hl.room
  simp only [go_sem, ↓reduceIte, Nat.reduceEqDiff, reduceCtorEq, Nat.reduceAdd, Nat.reduceLeDiff, Nat.reduceMul, c104, hl.len, wrap64 (left - (l.length : Int)) (by omega) (by omega)]
  refine brT.intro (fun q1 => ?_) (fun q1 => ?_) <;> simp only [go_sem, ↓reduceIte, Nat.reduceEqDiff, reduceCtorEq, Nat.reduceAdd, Nat.reduceLeDiff, Nat.reduceMul]
  · exact ⟨-1, rfl, fun h => by omega⟩
  · have := of_decide_eq_false q1
    exact ⟨_, rfl, fun h => ⟨by omega, by omega⟩⟩
theorem f21 {H : Hp} {v : Value} {l : List ByteArray} {left : Int} (hl : SlS H v l) (hz : ∀ z ∈ l, z.size ≤ 9223372036854775807) (h0 : 0 ≤ left) (h1 : left ≤ 1048576) : ScalP EE 21 [v, .int .i64 left] H fun r => ∃ n : Int, r = .int .i64 n ∧ (0 ≤ n → n ≤ 1048576 ∧ l.length ≤ 1048576 ∧ ∀ z ∈ l, z.size ≤ 1048576) := by
  refine scalP_ok rfl rfl k21 (by simp [c21]) fun m hw => ?_
  have hroom := hl.room
  simp only [go_sem, ↓reduceIte, Nat.reduceEqDiff, reduceCtorEq, Nat.reduceAdd, Nat.reduceLeDiff, Nat.reduceMul, c21, hl.len, wrap64 (left - (l.length : Int)) (by omega) (by omega)]
  refine brT.intro (fun q1 => ?_) (fun q1 => ?_) <;> simp only [go_sem, ↓reduceIte, Nat.reduceEqDiff, reduceCtorEq, Nat.reduceAdd, Nat.reduceLeDiff, Nat.reduceMul]
  · exact ⟨-1, rfl, fun h => by omega⟩
  have q1' := of_decide_eq_false q1
  refine go_for l.length (fun i s => s.H = H ∧ s.ρ 0 = .val v ∧ (∃ n : Int, s.ρ 1 = .val (.int .i64 n) ∧ 0 ≤ n ∧ n ≤ 1048576) ∧ s.ρ 5 = .val (.int .i64 i) ∧ ∀ z ∈ l.take i, z.size ≤ 1048576) (fun s => s.H = H ∧ (∃ n : Int, s.ρ 1 = .val (.int .i64 n) ∧ 0 ≤ n ∧ n ≤ 1048576) ∧ ∀ z ∈ l, z.size ≤ 1048576) ?_ ?_ ?_
  · exact ⟨rfl, by simp [upd, ini], ⟨left - l.length, by simp [upd], by omega, by omega⟩, by simp [upd], by simp⟩
  · rintro i s hi ⟨hH, k0, ⟨n, k1, hn0, hn1⟩, k5, hk⟩
    simp only [go_sem, ↓reduceIte, Nat.reduceEqDiff, reduceCtorEq, Nat.reduceAdd, Nat.reduceLeDiff, Nat.reduceMul, k0, k1, k5, hl.len]
    cases c1 : decide ((i : Int) < (l.length : Int)) <;> simp only [go_sem, ↓reduceIte, Nat.reduceEqDiff, reduceCtorEq, Nat.reduceAdd, Nat.reduceLeDiff, Nat.reduceMul, k0, k1, k5, c1]
    · rw [List.take_of_length_le (by have := of_decide_eq_false c1; omega)] at hk
      exact ⟨hH, ⟨n, rfl, hn0, hn1⟩, hk⟩
    have hil : i < l.length := by have := of_decide_eq_true c1; omega
    have w1 := wrap64 ((i : Int) + 1) (by omega) (by omega)
    obtain ⟨id, p, o, ho, hr, hia⟩ := hl.str (List.getElem?_eq_getElem hil)
    have hzi := hz _ (List.getElem_mem hil)
    have wsz := wrap64 (n - (l[i].size : Int)) (by omega) (by omega)
    simp only [go_sem, ↓reduceIte, Nat.reduceEqDiff, reduceCtorEq, Nat.reduceAdd, Nat.reduceLeDiff, Nat.reduceMul, k0, k1, k5, hia, hH, ho, hr, lenTK, wsz]
    cases q2 : decide (n - (l[i].size : Int) < 0) <;> simp only [go_sem, ↓reduceIte, Nat.reduceEqDiff, reduceCtorEq, Nat.reduceAdd, Nat.reduceLeDiff, Nat.reduceMul, k0, k1, k5, q2, w1]
    · have := of_decide_eq_false q2
      refine ⟨hil, ⟨_, rfl, by omega, by omega⟩, by simp, fun x hx => ?_⟩
      rw [List.take_succ_eq_append_getElem hil, List.mem_append, List.mem_singleton] at hx
      rcases hx with hx | hx
      · exact hk x hx
      · subst hx; omega
    · exact ⟨-1, rfl, fun h => by omega⟩
  · rintro s ⟨hH, ⟨n, k1, hn0, hn1⟩, hk⟩
    simp only [go_sem, ↓reduceIte, Nat.reduceEqDiff, reduceCtorEq, Nat.reduceAdd, Nat.reduceLeDiff, Nat.reduceMul, k1, hH]
    exact ⟨n, rfl, fun _ => ⟨hn1, by omega, hk⟩⟩
theorem f22 {H : Hp} {u w : Value} {t : List ByteArray} {k : List Int} {left : Int} (ht : SlS H u t) (hk : SlI H w k) (hz : ∀ z ∈ t, z.size ≤ 9223372036854775807) (h0 : 0 ≤ left) (h1 : left ≤ 1048576) : ScalP EE 22 [.agg #[u, w], .int .i64 left] H fun r => ∃ n : Int, r = .int .i64 n ∧ (0 ≤ n → n ≤ 1048576 ∧ (t.length ≤ 1048576 ∧ ∀ z ∈ t, z.size ≤ 1048576) ∧ k.length ≤ 1048576) := by
  refine scalP_ok rfl rfl k22 (by simp [c22]) fun m hw => ?_
  simp only [go_sem, ↓reduceIte, Nat.reduceEqDiff, reduceCtorEq, Nat.reduceAdd, Nat.reduceLeDiff, Nat.reduceMul, c22]
  refine callT_to (fun m' h => f21 ht hz h0 h1 m' h) rfl hw fun r H' ⟨⟨n, e, hn⟩, e2⟩ => ?_
  subst e; subst e2
  simp only [go_sem, ↓reduceIte, Nat.reduceEqDiff, reduceCtorEq, Nat.reduceAdd, Nat.reduceLeDiff, Nat.reduceMul]
  refine brT.intro (fun q1 => ?_) (fun q1 => ?_) <;> simp only [go_sem, ↓reduceIte, Nat.reduceEqDiff, reduceCtorEq, Nat.reduceAdd, Nat.reduceLeDiff, Nat.reduceMul]
  · exact ⟨-1, rfl, fun h => by omega⟩
  have q1' := of_decide_eq_false q1
  refine callT_to (fun m' h => f28 hk (by omega) (hn (by omega)).1 m' h) rfl hw fun r H' ⟨⟨n2, e, hn2⟩, e2⟩ => ?_
  subst e; subst e2
  simp only [go_sem, ↓reduceIte, Nat.reduceEqDiff, reduceCtorEq, Nat.reduceAdd, Nat.reduceLeDiff, Nat.reduceMul]
  refine brT.intro (fun q2 => ?_) (fun q2 => ?_) <;> simp only [go_sem, ↓reduceIte, Nat.reduceEqDiff, reduceCtorEq, Nat.reduceAdd, Nat.reduceLeDiff, Nat.reduceMul]
  · exact ⟨-1, rfl, fun h => by omega⟩
  · exact ⟨n2, rfl, fun h => ⟨(hn2 h).1, (hn (by omega)).2, (hn2 h).2⟩⟩
theorem f64 {H : Hp} {x : Cr} {left : Int} (hz : x.2.2.2.2.2.size ≤ 9223372036854775807) (h0 : 0 ≤ left) (h1 : left ≤ 1048576) : ScalP EE 64 [.agg #[.int .i64 x.1, .int .i64 x.2.1, .int .i64 x.2.2.1, .int .i64 x.2.2.2.1, .int .i64 x.2.2.2.2.1.1, .int .i64 x.2.2.2.2.1.2.1, .int .i64 x.2.2.2.2.1.2.2, .string x.2.2.2.2.2], .int .i64 left] H fun r => ∃ n : Int, r = .int .i64 n ∧ (0 ≤ n → n ≤ 1048576 ∧ x.2.2.2.2.2.size ≤ 1048576) := by
  refine scalP_ok rfl rfl k64 (by simp [c64]) fun m hw => ?_
  simp only [go_sem, ↓reduceIte, Nat.reduceEqDiff, reduceCtorEq, Nat.reduceAdd, Nat.reduceLeDiff, Nat.reduceMul, c64, lenTK, wrap64 (left - (x.2.2.2.2.2.size : Int)) (by omega) (by omega)]
  refine brT.intro (fun q1 => ?_) (fun q1 => ?_) <;> simp only [go_sem, ↓reduceIte, Nat.reduceEqDiff, reduceCtorEq, Nat.reduceAdd, Nat.reduceLeDiff, Nat.reduceMul]
  · exact ⟨-1, rfl, fun h => by omega⟩
  · have := of_decide_eq_false q1
    exact ⟨_, rfl, fun h => ⟨by omega, by omega⟩⟩
theorem f65 {H : Hp} {x : Ch} {cs : List Value} {left : Int} (hc : RCh H x cs) (h0 : 0 ≤ left) (h1 : left ≤ 1048576) : ScalP EE 65 [.agg cs.toArray, .int .i64 left] H fun r => ∃ n : Int, r = .int .i64 n ∧ (0 ≤ n → n ≤ 1048576 ∧ x.2.length ≤ 1048576) := by
  obtain ⟨u, e, hs⟩ := hc
  subst e
  refine scalP_ok rfl rfl k65 (by simp [c65]) fun m hw => ?_
  simp only [go_sem, ↓reduceIte, Nat.reduceEqDiff, reduceCtorEq, Nat.reduceAdd, Nat.reduceLeDiff, Nat.reduceMul, c65]
  refine callT_to (fun m' h => f104 hs h0 h1 m' h) rfl hw fun r H' ⟨⟨n, e, hn⟩, e2⟩ => ?_
  subst e; subst e2
  simp only [go_sem, ↓reduceIte, Nat.reduceEqDiff, reduceCtorEq, Nat.reduceAdd, Nat.reduceLeDiff, Nat.reduceMul]
  refine brT.intro (fun q1 => ?_) (fun q1 => ?_) <;> simp only [go_sem, ↓reduceIte, Nat.reduceEqDiff, reduceCtorEq, Nat.reduceAdd, Nat.reduceLeDiff, Nat.reduceMul]
  · exact ⟨-1, rfl, fun h => by omega⟩
  · exact ⟨n, rfl, hn⟩
theorem f66 {H : Hp} {x : Acp} {cs : List Value} {left : Int} (hc : RAc H x cs) (hz : x.tk.size ≤ 9223372036854775807) (h0 : 0 ≤ left) (h1 : left ≤ 1048576) : ScalP EE 66 [.agg cs.toArray, .int .i64 left] H fun r => ∃ n : Int, r = .int .i64 n ∧ (0 ≤ n → n ≤ 1048576 ∧ x.pa.length ≤ 1048576 ∧ x.vi.length ≤ 1048576) := by
  obtain ⟨pp, pv, e, hs1, hs2⟩ := hc
  subst e
  refine scalP_ok rfl rfl k66 (by simp [c66]) fun m hw => ?_
  simp only [go_sem, ↓reduceIte, Nat.reduceEqDiff, reduceCtorEq, Nat.reduceAdd, Nat.reduceLeDiff, Nat.reduceMul, c66]
  refine callT_to (fun m' h => f28 hs1 h0 h1 m' h) rfl hw fun r H' ⟨⟨n, e, hn⟩, e2⟩ => ?_
  subst e; subst e2
  simp only [go_sem, ↓reduceIte, Nat.reduceEqDiff, reduceCtorEq, Nat.reduceAdd, Nat.reduceLeDiff, Nat.reduceMul]
  refine brT.intro (fun q1 => ?_) (fun q1 => ?_) <;> simp only [go_sem, ↓reduceIte, Nat.reduceEqDiff, reduceCtorEq, Nat.reduceAdd, Nat.reduceLeDiff, Nat.reduceMul]
  · exact ⟨-1, rfl, fun h => by omega⟩
  have q1' := of_decide_eq_false q1
  refine callT_to (fun m' h => f28 hs2 (by omega) (hn (by omega)).1 m' h) rfl hw fun r H' ⟨⟨n2, e, hn2⟩, e2⟩ => ?_
  subst e; subst e2
  simp only [go_sem, ↓reduceIte, Nat.reduceEqDiff, reduceCtorEq, Nat.reduceAdd, Nat.reduceLeDiff, Nat.reduceMul]
  refine brT.intro (fun q2 => ?_) (fun q2 => ?_) <;> simp only [go_sem, ↓reduceIte, Nat.reduceEqDiff, reduceCtorEq, Nat.reduceAdd, Nat.reduceLeDiff, Nat.reduceMul]
  · exact ⟨-1, rfl, fun h => by omega⟩
  have q2' := of_decide_eq_false q2
  have hb := (hn2 (by omega)).1
  simp only [go_sem, ↓reduceIte, Nat.reduceEqDiff, reduceCtorEq, Nat.reduceAdd, Nat.reduceLeDiff, Nat.reduceMul, lenTK, wrap64 (n2 - (x.tk.size : Int)) (by omega) (by omega)]
  refine brT.intro (fun q3 => ?_) (fun q3 => ?_) <;> simp only [go_sem, ↓reduceIte, Nat.reduceEqDiff, reduceCtorEq, Nat.reduceAdd, Nat.reduceLeDiff, Nat.reduceMul]
  · exact ⟨-1, rfl, fun h => by omega⟩
  · exact ⟨_, rfl, fun h => ⟨by omega, (hn (by omega)).2, (hn2 (by omega)).2⟩⟩
theorem f24 {H : Hp} {v : Value} {l : List Cr} {left : Int} (hl : Sl (En eCr) 8 H v l) (hz : ∀ z ∈ l, z.2.2.2.2.2.size ≤ 9223372036854775807) (h0 : 0 ≤ left) (h1 : left ≤ 1048576) : ScalP EE 24 [v, .int .i64 left] H fun r => ∃ n : Int, r = .int .i64 n ∧ (0 ≤ n → n ≤ 1048576 ∧ l.length ≤ 1048576 ∧ ∀ x ∈ l, x.2.2.2.2.2.size ≤ 1048576) := by
  refine scalP_ok rfl rfl k24 (by simp [c24]) fun m hw => ?_
  have hroom := hl.room
  simp only [go_sem, ↓reduceIte, Nat.reduceEqDiff, reduceCtorEq, Nat.reduceAdd, Nat.reduceLeDiff, Nat.reduceMul, c24, hl.len, wrap64 (left - (l.length : Int)) (by omega) (by omega)]
  refine brT.intro (fun q1 => ?_) (fun q1 => ?_) <;> simp only [go_sem, ↓reduceIte, Nat.reduceEqDiff, reduceCtorEq, Nat.reduceAdd, Nat.reduceLeDiff, Nat.reduceMul]
  · exact ⟨-1, rfl, fun h => by omega⟩
  have q1' := of_decide_eq_false q1
  refine go_for l.length (fun i s => s.H = H ∧ s.ρ 0 = .val v ∧ (∃ n : Int, s.ρ 1 = .val (.int .i64 n) ∧ 0 ≤ n ∧ n ≤ 1048576) ∧ s.ρ 5 = .val (.int .i64 i) ∧ ∀ x ∈ l.take i, x.2.2.2.2.2.size ≤ 1048576) (fun s => s.H = H ∧ (∃ n : Int, s.ρ 1 = .val (.int .i64 n) ∧ 0 ≤ n ∧ n ≤ 1048576) ∧ ∀ x ∈ l, x.2.2.2.2.2.size ≤ 1048576) ?_ ?_ ?_
  · exact ⟨rfl, by simp [upd, ini], ⟨left - l.length, by simp [upd], by omega, by omega⟩, by simp [upd], by simp⟩
  · rintro i s hi ⟨hH, k0, ⟨n, k1, hn0, hn1⟩, k5, hk⟩
    simp only [go_sem, ↓reduceIte, Nat.reduceEqDiff, reduceCtorEq, Nat.reduceAdd, Nat.reduceLeDiff, Nat.reduceMul, k0, k1, k5, hl.len]
    cases c1 : decide ((i : Int) < (l.length : Int)) <;> simp only [go_sem, ↓reduceIte, Nat.reduceEqDiff, reduceCtorEq, Nat.reduceAdd, Nat.reduceLeDiff, Nat.reduceMul, k0, k1, k5, c1]
    · rw [List.take_of_length_le (by have := of_decide_eq_false c1; omega)] at hk
      exact ⟨hH, ⟨n, rfl, hn0, hn1⟩, hk⟩
    have hil : i < l.length := by have := of_decide_eq_true c1; omega
    have w1 := wrap64 ((i : Int) + 1) (by omega) (by omega)
    obtain ⟨id, p, o, ho, hr, hp, hia⟩ := hl.elem (List.getElem?_eq_getElem hil)
    have hr : (o.drop p).take 8 = eCr l[i] := hr
    unfold eCr at hr
    have key := f64 (H := H) (x := l[i]) (left := n) (hz _ (List.getElem_mem hil)) hn0 hn1
    simp only [go_sem, ↓reduceIte, Nat.reduceEqDiff, reduceCtorEq, Nat.reduceAdd, Nat.reduceLeDiff, Nat.reduceMul, k0, k1, k5, hia, hH, ho, hr, hp]
    refine callT_to (fun m' h => key m' h) rfl hw fun r H' ⟨⟨n2, e, hn2⟩, e2⟩ => ?_
    subst e; subst e2
    simp only [go_sem, ↓reduceIte, Nat.reduceEqDiff, reduceCtorEq, Nat.reduceAdd, Nat.reduceLeDiff, Nat.reduceMul, k0, k5]
    cases q2 : decide (n2 < 0) <;> simp only [go_sem, ↓reduceIte, Nat.reduceEqDiff, reduceCtorEq, Nat.reduceAdd, Nat.reduceLeDiff, Nat.reduceMul, k0, k5, q2, w1]
    · have h3 : 0 ≤ n2 := by have := of_decide_eq_false q2; omega
      refine ⟨hil, ⟨n2, rfl, h3, (hn2 h3).1⟩, by simp, fun x hx => ?_⟩
      rw [List.take_succ_eq_append_getElem hil, List.mem_append, List.mem_singleton] at hx
      rcases hx with hx | hx
      · exact hk x hx
      · subst hx; exact (hn2 h3).2
    · exact ⟨-1, rfl, fun h => by omega⟩
  · rintro s ⟨hH, ⟨n, k1, hn0, hn1⟩, hk⟩
    simp only [go_sem, ↓reduceIte, Nat.reduceEqDiff, reduceCtorEq, Nat.reduceAdd, Nat.reduceLeDiff, Nat.reduceMul, k1, hH]
    exact ⟨n, rfl, fun _ => ⟨hn1, by omega, hk⟩⟩
theorem f25 {H : Hp} {v : Value} {l : List Ch} {left : Int} (hl : Sl (RCh H) 2 H v l) (h0 : 0 ≤ left) (h1 : left ≤ 1048576) : ScalP EE 25 [v, .int .i64 left] H fun r => ∃ n : Int, r = .int .i64 n ∧ (0 ≤ n → n ≤ 1048576 ∧ l.length ≤ 1048576 ∧ ∀ x ∈ l, x.2.length ≤ 1048576) := by
  refine scalP_ok rfl rfl k25 (by simp [c25]) fun m hw => ?_
  have hroom := hl.room
  simp only [go_sem, ↓reduceIte, Nat.reduceEqDiff, reduceCtorEq, Nat.reduceAdd, Nat.reduceLeDiff, Nat.reduceMul, c25, hl.len, wrap64 (left - (l.length : Int)) (by omega) (by omega)]
  refine brT.intro (fun q1 => ?_) (fun q1 => ?_) <;> simp only [go_sem, ↓reduceIte, Nat.reduceEqDiff, reduceCtorEq, Nat.reduceAdd, Nat.reduceLeDiff, Nat.reduceMul]
  · exact ⟨-1, rfl, fun h => by omega⟩
  have q1' := of_decide_eq_false q1
  refine go_for l.length (fun i s => s.H = H ∧ s.ρ 0 = .val v ∧ (∃ n : Int, s.ρ 1 = .val (.int .i64 n) ∧ 0 ≤ n ∧ n ≤ 1048576) ∧ s.ρ 5 = .val (.int .i64 i) ∧ ∀ x ∈ l.take i, x.2.length ≤ 1048576) (fun s => s.H = H ∧ (∃ n : Int, s.ρ 1 = .val (.int .i64 n) ∧ 0 ≤ n ∧ n ≤ 1048576) ∧ ∀ x ∈ l, x.2.length ≤ 1048576) ?_ ?_ ?_
  · exact ⟨rfl, by simp [upd, ini], ⟨left - l.length, by simp [upd], by omega, by omega⟩, by simp [upd], by simp⟩
  · rintro i s hi ⟨hH, k0, ⟨n, k1, hn0, hn1⟩, k5, hk⟩
    simp only [go_sem, ↓reduceIte, Nat.reduceEqDiff, reduceCtorEq, Nat.reduceAdd, Nat.reduceLeDiff, Nat.reduceMul, k0, k1, k5, hl.len]
    cases c1 : decide ((i : Int) < (l.length : Int)) <;> simp only [go_sem, ↓reduceIte, Nat.reduceEqDiff, reduceCtorEq, Nat.reduceAdd, Nat.reduceLeDiff, Nat.reduceMul, k0, k1, k5, c1]
    · rw [List.take_of_length_le (by have := of_decide_eq_false c1; omega)] at hk
      exact ⟨hH, ⟨n, rfl, hn0, hn1⟩, hk⟩
    have hil : i < l.length := by have := of_decide_eq_true c1; omega
    have w1 := wrap64 ((i : Int) + 1) (by omega) (by omega)
    obtain ⟨id, p, o, ho, hrr, hp, hia⟩ := hl.elem (List.getElem?_eq_getElem hil)
    have hrr2 := hrr
    obtain ⟨rr, hr, hs⟩ := hrr2
    rw [hr] at hrr
    simp only [go_sem, ↓reduceIte, Nat.reduceEqDiff, reduceCtorEq, Nat.reduceAdd, Nat.reduceLeDiff, Nat.reduceMul, k0, k1, k5, hia, hH, ho, hr, hp]
    refine callT_to (fun m' h => f65 hrr hn0 hn1 m' h) rfl hw fun r H' ⟨⟨n2, e, hn2⟩, e2⟩ => ?_
    subst e; subst e2
    simp only [go_sem, ↓reduceIte, Nat.reduceEqDiff, reduceCtorEq, Nat.reduceAdd, Nat.reduceLeDiff, Nat.reduceMul, k0, k5]
    cases q2 : decide (n2 < 0) <;> simp only [go_sem, ↓reduceIte, Nat.reduceEqDiff, reduceCtorEq, Nat.reduceAdd, Nat.reduceLeDiff, Nat.reduceMul, k0, k5, q2, w1]
    · have h3 : 0 ≤ n2 := by have := of_decide_eq_false q2; omega
      refine ⟨hil, ⟨n2, rfl, h3, (hn2 h3).1⟩, by simp, fun x hx => ?_⟩
      rw [List.take_succ_eq_append_getElem hil, List.mem_append, List.mem_singleton] at hx
      rcases hx with hx | hx
      · exact hk x hx
      · subst hx; exact (hn2 h3).2
    · exact ⟨-1, rfl, fun h => by omega⟩
  · rintro s ⟨hH, ⟨n, k1, hn0, hn1⟩, hk⟩
    simp only [go_sem, ↓reduceIte, Nat.reduceEqDiff, reduceCtorEq, Nat.reduceAdd, Nat.reduceLeDiff, Nat.reduceMul, k1, hH]
    exact ⟨n, rfl, fun _ => ⟨hn1, by omega, hk⟩⟩
theorem f27 {H : Hp} {v : Value} {l : List Acp} {left : Int} (hl : Sl (RAc H) 15 H v l) (hz : ∀ z ∈ l, z.tk.size ≤ 9223372036854775807) (h0 : 0 ≤ left) (h1 : left ≤ 1048576) : ScalP EE 27 [v, .int .i64 left] H fun r => ∃ n : Int, r = .int .i64 n ∧ (0 ≤ n → n ≤ 1048576 ∧ l.length ≤ 1048576 ∧ ∀ x ∈ l, x.pa.length ≤ 1048576 ∧ x.vi.length ≤ 1048576) := by
  refine scalP_ok rfl rfl k27 (by simp [c27]) fun m hw => ?_
  have hroom := hl.room
  simp only [go_sem, ↓reduceIte, Nat.reduceEqDiff, reduceCtorEq, Nat.reduceAdd, Nat.reduceLeDiff, Nat.reduceMul, c27, hl.len, wrap64 (left - (l.length : Int)) (by omega) (by omega)]
  refine brT.intro (fun q1 => ?_) (fun q1 => ?_) <;> simp only [go_sem, ↓reduceIte, Nat.reduceEqDiff, reduceCtorEq, Nat.reduceAdd, Nat.reduceLeDiff, Nat.reduceMul]
  · exact ⟨-1, rfl, fun h => by omega⟩
  have q1' := of_decide_eq_false q1
  refine go_for l.length (fun i s => s.H = H ∧ s.ρ 0 = .val v ∧ (∃ n : Int, s.ρ 1 = .val (.int .i64 n) ∧ 0 ≤ n ∧ n ≤ 1048576) ∧ s.ρ 5 = .val (.int .i64 i) ∧ ∀ x ∈ l.take i, x.pa.length ≤ 1048576 ∧ x.vi.length ≤ 1048576) (fun s => s.H = H ∧ (∃ n : Int, s.ρ 1 = .val (.int .i64 n) ∧ 0 ≤ n ∧ n ≤ 1048576) ∧ ∀ x ∈ l, x.pa.length ≤ 1048576 ∧ x.vi.length ≤ 1048576) ?_ ?_ ?_
  · exact ⟨rfl, by simp [upd, ini], ⟨left - l.length, by simp [upd], by omega, by omega⟩, by simp [upd], by simp⟩
  · rintro i s hi ⟨hH, k0, ⟨n, k1, hn0, hn1⟩, k5, hk⟩
    simp only [go_sem, ↓reduceIte, Nat.reduceEqDiff, reduceCtorEq, Nat.reduceAdd, Nat.reduceLeDiff, Nat.reduceMul, k0, k1, k5, hl.len]
    cases c1 : decide ((i : Int) < (l.length : Int)) <;> simp only [go_sem, ↓reduceIte, Nat.reduceEqDiff, reduceCtorEq, Nat.reduceAdd, Nat.reduceLeDiff, Nat.reduceMul, k0, k1, k5, c1]
    · rw [List.take_of_length_le (by have := of_decide_eq_false c1; omega)] at hk
      exact ⟨hH, ⟨n, rfl, hn0, hn1⟩, hk⟩
    have hil : i < l.length := by have := of_decide_eq_true c1; omega
    have w1 := wrap64 ((i : Int) + 1) (by omega) (by omega)
    obtain ⟨id, p, o, ho, hrr, hp, hia⟩ := hl.elem (List.getElem?_eq_getElem hil)
    have hrr2 := hrr
    obtain ⟨pp, pv, hr, hs1, hs2⟩ := hrr2
    rw [hr] at hrr
    simp only [go_sem, ↓reduceIte, Nat.reduceEqDiff, reduceCtorEq, Nat.reduceAdd, Nat.reduceLeDiff, Nat.reduceMul, k0, k1, k5, hia, hH, ho, hr, hp]
    refine callT_to (fun m' h => f66 hrr (hz _ (List.getElem_mem hil)) hn0 hn1 m' h) rfl hw fun r H' ⟨⟨n2, e, hn2⟩, e2⟩ => ?_
    subst e; subst e2
    simp only [go_sem, ↓reduceIte, Nat.reduceEqDiff, reduceCtorEq, Nat.reduceAdd, Nat.reduceLeDiff, Nat.reduceMul, k0, k5]
    cases q2 : decide (n2 < 0) <;> simp only [go_sem, ↓reduceIte, Nat.reduceEqDiff, reduceCtorEq, Nat.reduceAdd, Nat.reduceLeDiff, Nat.reduceMul, k0, k5, q2, w1]
    · have h3 : 0 ≤ n2 := by have := of_decide_eq_false q2; omega
      refine ⟨hil, ⟨n2, rfl, h3, (hn2 h3).1⟩, by simp, fun x hx => ?_⟩
      rw [List.take_succ_eq_append_getElem hil, List.mem_append, List.mem_singleton] at hx
      rcases hx with hx | hx
      · exact hk x hx
      · subst hx; exact (hn2 h3).2
    · exact ⟨-1, rfl, fun h => by omega⟩
  · rintro s ⟨hH, ⟨n, k1, hn0, hn1⟩, hk⟩
    simp only [go_sem, ↓reduceIte, Nat.reduceEqDiff, reduceCtorEq, Nat.reduceAdd, Nat.reduceLeDiff, Nat.reduceMul, k1, hH]
    exact ⟨n, rfl, fun _ => ⟨hn1, by omega, hk⟩⟩

/-- A config's rows, so long at most. -/
def CfS (c : Cfg) : Prop := c.ur.length ≤ 1048576 ∧ c.sr.length ≤ 1048576 ∧ c.lk.length ≤ 1048576 ∧ c.px.length ≤ 1048576
theorem f20 {H : Hp} {c : Cfg} {u s l p : Value} {left : Int} (h : RCf H c u s l p) (h0 : 0 ≤ left) (h1 : left ≤ 1048576) : ScalP EE 20 [.agg #[u, s, l, p, .int .i64 c.skew], .int .i64 left] H fun r => ∃ n : Int, r = .int .i64 n ∧ (0 ≤ n → n ≤ 1048576 ∧ CfS c) := by
  refine scalP_ok rfl rfl k20 (by simp [c20]) fun m hw => ?_
  simp only [go_sem, ↓reduceIte, Nat.reduceEqDiff, reduceCtorEq, Nat.reduceAdd, Nat.reduceLeDiff, Nat.reduceMul, c20]
  refine callT_to (fun m' k => f28 h.ur h0 h1 m' k) rfl hw fun r H' ⟨⟨n1, e, hn1⟩, e2⟩ => ?_
  subst e; subst e2
  simp only [go_sem, ↓reduceIte, Nat.reduceEqDiff, reduceCtorEq, Nat.reduceAdd, Nat.reduceLeDiff, Nat.reduceMul]
  refine brT.intro (fun q1 => ?_) (fun q1 => ?_) <;> simp only [go_sem, ↓reduceIte, Nat.reduceEqDiff, reduceCtorEq, Nat.reduceAdd, Nat.reduceLeDiff, Nat.reduceMul]
  · exact ⟨-1, rfl, fun h => by omega⟩
  have q1' := of_decide_eq_false q1
  refine callT_to (fun m' k => f28 h.sr (by omega) (hn1 (by omega)).1 m' k) rfl hw fun r H' ⟨⟨n2, e, hn2⟩, e2⟩ => ?_
  subst e; subst e2
  simp only [go_sem, ↓reduceIte, Nat.reduceEqDiff, reduceCtorEq, Nat.reduceAdd, Nat.reduceLeDiff, Nat.reduceMul]
  refine brT.intro (fun q2 => ?_) (fun q2 => ?_) <;> simp only [go_sem, ↓reduceIte, Nat.reduceEqDiff, reduceCtorEq, Nat.reduceAdd, Nat.reduceLeDiff, Nat.reduceMul]
  · exact ⟨-1, rfl, fun h => by omega⟩
  have q2' := of_decide_eq_false q2
  refine callT_to (fun m' k => f63 h.lk (by omega) (hn2 (by omega)).1 m' k) rfl hw fun r H' ⟨⟨n3, e, hn3⟩, e2⟩ => ?_
  subst e; subst e2
  simp only [go_sem, ↓reduceIte, Nat.reduceEqDiff, reduceCtorEq, Nat.reduceAdd, Nat.reduceLeDiff, Nat.reduceMul]
  refine brT.intro (fun q3 => ?_) (fun q3 => ?_) <;> simp only [go_sem, ↓reduceIte, Nat.reduceEqDiff, reduceCtorEq, Nat.reduceAdd, Nat.reduceLeDiff, Nat.reduceMul]
  · exact ⟨-1, rfl, fun h => by omega⟩
  have q3' := of_decide_eq_false q3
  refine callT_to (fun m' k => f63 h.px (by omega) (hn3 (by omega)).1 m' k) rfl hw fun r H' ⟨⟨n4, e, hn4⟩, e2⟩ => ?_
  subst e; subst e2
  simp only [go_sem, ↓reduceIte, Nat.reduceEqDiff, reduceCtorEq, Nat.reduceAdd, Nat.reduceLeDiff, Nat.reduceMul]
  refine brT.intro (fun q4 => ?_) (fun q4 => ?_) <;> simp only [go_sem, ↓reduceIte, Nat.reduceEqDiff, reduceCtorEq, Nat.reduceAdd, Nat.reduceLeDiff, Nat.reduceMul]
  · exact ⟨-1, rfl, fun h => by omega⟩
  · exact ⟨n4, rfl, fun h => ⟨(hn4 h).1, (hn1 (by omega)).2, (hn2 (by omega)).2, (hn3 (by omega)).2, (hn4 h).2⟩⟩
/-- A world's rows, so long at most. -/
structure WdS (w : Wd) : Prop where
  cf : CfS w.cf
  net : w.net.length ≤ 1048576
  netz : ∀ z ∈ w.net, z.size ≤ 1048576
  tms : w.tms.length ≤ 1048576
  tmz : ∀ z ∈ w.tms, z.size ≤ 1048576
  kys : w.kys.length ≤ 1048576
  wts : w.wts.length ≤ 1048576
  crs : w.crs.length ≤ 1048576
  crz : ∀ x ∈ w.crs, x.2.2.2.2.2.size ≤ 1048576
  chs : w.chs.length ≤ 1048576
  ch : ∀ x ∈ w.chs, x.2.length ≤ 1048576
  log : w.log.length ≤ 1048576
  acs : w.acs.length ≤ 1048576
  ac : ∀ x ∈ w.acs, x.pa.length ≤ 1048576 ∧ x.vi.length ≤ 1048576
  lks : w.lks.length ≤ 1048576
/-- A world's texts, no longer than Go's can be; the creds' services are numbers of 64 bits. -/
structure WdY (w : Wd) : Prop where
  net : ∀ z ∈ w.net, z.size ≤ 9223372036854775807
  tms : ∀ z ∈ w.tms, z.size ≤ 9223372036854775807
  crs : ∀ z ∈ w.crs, z.2.2.2.2.2.size ≤ 9223372036854775807 ∧ I64 z.2.2.1
  acs : ∀ z ∈ w.acs, z.tk.size ≤ 9223372036854775807
theorem WdY.z {w : Wd} (h : WdY w) (s : WdS w) : WdZ w := ⟨fun z hz => by have := s.netz z hz; omega, fun z hz => by have := s.tmz z hz; omega, fun z hz => ⟨by have := s.crz z hz; omega, (h.crs z hz).2⟩⟩
theorem f7 {H : Hp} {w : Wd} {u s l p n t k a c h e x d : Value} {left : Int} (q : RWd H w u s l p n t k a c h e x d) (z : WdY w) (h0 : 0 ≤ left) (h1 : left ≤ 1048576) :
    ScalP EE 7 [.agg #[u, s, l, p, .int .i64 w.cf.skew, .int .i64 w.now, .int .i64 w.fresh, n, t, k, a, c, h, e, x, d], .int .i64 left] H fun r => ∃ n : Int, r = .int .i64 n ∧ (0 ≤ n → WdS w) := by
  refine scalP_ok rfl rfl k7 (by simp [c7]) fun m hw => ?_
  simp only [go_sem, ↓reduceIte, Nat.reduceEqDiff, reduceCtorEq, Nat.reduceAdd, Nat.reduceLeDiff, Nat.reduceMul, c7]
  refine callT_to (fun m' k => f20 q.cf h0 h1 m' k) rfl hw fun r H' ⟨⟨n1, e, hn1⟩, e2⟩ => ?_
  subst e; subst e2
  simp only [go_sem, ↓reduceIte, Nat.reduceEqDiff, reduceCtorEq, Nat.reduceAdd, Nat.reduceLeDiff, Nat.reduceMul]
  refine brT.intro (fun q1 => ?_) (fun q1 => ?_) <;> simp only [go_sem, ↓reduceIte, Nat.reduceEqDiff, reduceCtorEq, Nat.reduceAdd, Nat.reduceLeDiff, Nat.reduceMul]
  · exact ⟨-1, rfl, fun h => by omega⟩
  have q1' := of_decide_eq_false q1
  refine callT_to (fun m' k => f21 q.net z.net (by omega) (hn1 (by omega)).1 m' k) rfl hw fun r H' ⟨⟨n2, e, hn2⟩, e2⟩ => ?_
  subst e; subst e2
  simp only [go_sem, ↓reduceIte, Nat.reduceEqDiff, reduceCtorEq, Nat.reduceAdd, Nat.reduceLeDiff, Nat.reduceMul]
  refine brT.intro (fun q2 => ?_) (fun q2 => ?_) <;> simp only [go_sem, ↓reduceIte, Nat.reduceEqDiff, reduceCtorEq, Nat.reduceAdd, Nat.reduceLeDiff, Nat.reduceMul]
  · exact ⟨-1, rfl, fun h => by omega⟩
  have q2' := of_decide_eq_false q2
  refine callT_to (fun m' k => f22 q.tms q.kys z.tms (by omega) (hn2 (by omega)).1 m' k) rfl hw fun r H' ⟨⟨n3, e, hn3⟩, e2⟩ => ?_
  subst e; subst e2
  simp only [go_sem, ↓reduceIte, Nat.reduceEqDiff, reduceCtorEq, Nat.reduceAdd, Nat.reduceLeDiff, Nat.reduceMul]
  refine brT.intro (fun q3 => ?_) (fun q3 => ?_) <;> simp only [go_sem, ↓reduceIte, Nat.reduceEqDiff, reduceCtorEq, Nat.reduceAdd, Nat.reduceLeDiff, Nat.reduceMul]
  · exact ⟨-1, rfl, fun h => by omega⟩
  have q3' := of_decide_eq_false q3
  refine callT_to (fun m' k => f23 q.wts (by omega) (hn3 (by omega)).1 m' k) rfl hw fun r H' ⟨⟨n4, e, hn4⟩, e2⟩ => ?_
  subst e; subst e2
  simp only [go_sem, ↓reduceIte, Nat.reduceEqDiff, reduceCtorEq, Nat.reduceAdd, Nat.reduceLeDiff, Nat.reduceMul]
  refine brT.intro (fun q4 => ?_) (fun q4 => ?_) <;> simp only [go_sem, ↓reduceIte, Nat.reduceEqDiff, reduceCtorEq, Nat.reduceAdd, Nat.reduceLeDiff, Nat.reduceMul]
  · exact ⟨-1, rfl, fun h => by omega⟩
  have q4' := of_decide_eq_false q4
  refine callT_to (fun m' k => f24 q.crs (fun y hy => (z.crs y hy).1) (by omega) (hn4 (by omega)).1 m' k) rfl hw fun r H' ⟨⟨n5, e, hn5⟩, e2⟩ => ?_
  subst e; subst e2
  simp only [go_sem, ↓reduceIte, Nat.reduceEqDiff, reduceCtorEq, Nat.reduceAdd, Nat.reduceLeDiff, Nat.reduceMul]
  refine brT.intro (fun q5 => ?_) (fun q5 => ?_) <;> simp only [go_sem, ↓reduceIte, Nat.reduceEqDiff, reduceCtorEq, Nat.reduceAdd, Nat.reduceLeDiff, Nat.reduceMul]
  · exact ⟨-1, rfl, fun h => by omega⟩
  have q5' := of_decide_eq_false q5
  refine callT_to (fun m' k => f25 q.chs (by omega) (hn5 (by omega)).1 m' k) rfl hw fun r H' ⟨⟨n6, e, hn6⟩, e2⟩ => ?_
  subst e; subst e2
  simp only [go_sem, ↓reduceIte, Nat.reduceEqDiff, reduceCtorEq, Nat.reduceAdd, Nat.reduceLeDiff, Nat.reduceMul]
  refine brT.intro (fun q6 => ?_) (fun q6 => ?_) <;> simp only [go_sem, ↓reduceIte, Nat.reduceEqDiff, reduceCtorEq, Nat.reduceAdd, Nat.reduceLeDiff, Nat.reduceMul]
  · exact ⟨-1, rfl, fun h => by omega⟩
  have q6' := of_decide_eq_false q6
  refine callT_to (fun m' k => f26 q.log (by omega) (hn6 (by omega)).1 m' k) rfl hw fun r H' ⟨⟨n7, e, hn7⟩, e2⟩ => ?_
  subst e; subst e2
  simp only [go_sem, ↓reduceIte, Nat.reduceEqDiff, reduceCtorEq, Nat.reduceAdd, Nat.reduceLeDiff, Nat.reduceMul]
  refine brT.intro (fun q7 => ?_) (fun q7 => ?_) <;> simp only [go_sem, ↓reduceIte, Nat.reduceEqDiff, reduceCtorEq, Nat.reduceAdd, Nat.reduceLeDiff, Nat.reduceMul]
  · exact ⟨-1, rfl, fun h => by omega⟩
  have q7' := of_decide_eq_false q7
  refine callT_to (fun m' k => f27 q.acs z.acs (by omega) (hn7 (by omega)).1 m' k) rfl hw fun r H' ⟨⟨n8, e, hn8⟩, e2⟩ => ?_
  subst e; subst e2
  simp only [go_sem, ↓reduceIte, Nat.reduceEqDiff, reduceCtorEq, Nat.reduceAdd, Nat.reduceLeDiff, Nat.reduceMul]
  refine brT.intro (fun q8 => ?_) (fun q8 => ?_) <;> simp only [go_sem, ↓reduceIte, Nat.reduceEqDiff, reduceCtorEq, Nat.reduceAdd, Nat.reduceLeDiff, Nat.reduceMul]
  · exact ⟨-1, rfl, fun h => by omega⟩
  have q8' := of_decide_eq_false q8
  refine callT_to (fun m' k => f28 q.lks (by omega) (hn8 (by omega)).1 m' k) rfl hw fun r H' ⟨⟨n9, e, hn9⟩, e2⟩ => ?_
  subst e; subst e2
  simp only [go_sem, ↓reduceIte, Nat.reduceEqDiff, reduceCtorEq, Nat.reduceAdd, Nat.reduceLeDiff, Nat.reduceMul]
  refine brT.intro (fun q9 => ?_) (fun q9 => ?_) <;> simp only [go_sem, ↓reduceIte, Nat.reduceEqDiff, reduceCtorEq, Nat.reduceAdd, Nat.reduceLeDiff, Nat.reduceMul]
  · exact ⟨-1, rfl, fun h => by omega⟩
  have q9' := of_decide_eq_false q9
  have g1 := (hn1 (by omega)).2; have g2 := (hn2 (by omega)).2; have g3 := (hn3 (by omega)).2; have g4 := (hn4 (by omega)).2; have g5 := (hn5 (by omega)).2; have g6 := (hn6 (by omega)).2; have g7 := (hn7 (by omega)).2; have g8 := (hn8 (by omega)).2; have g9 := (hn9 (by omega)).2
  exact ⟨n9, rfl, fun _ => ⟨g1, g2.1, g2.2, g3.1.1, g3.1.2, g3.2, g4, g5.1, g5.2, g6.1, g6.2, g7, g8.1, g8.2, g9⟩⟩
end Go.Proofs.YtglboiahgpfjdaaGreat.Ev

/- Copies of a world's rows. -/
namespace Go.Proofs.YtglboiahgpfjdaaGreat.Ev
set_option linter.all false
open Go
set_option maxRecDepth 4000

theorem scal_f {E : Env} {f : Nat} {cf : CF} {vs : List Value} {H : Hp} {r : Value} (ht : E.tr f = false) (hp : E.prim f = none) (hf : E.fns f = some cf) (hl : vs.length ≤ cf.nt)
    (h : ∀ m : Md, Wr m H → go E m [.c cf.body] { ρ := ini vs, gn := 0, H := H } (Post cf.res false H fun r' H' => r' = r ∧ H' = H)) : Scal E f vs H r := fun m hw => fun_f ht hp hf hl (h m hw)
theorem callT_nr {E : Env} {m : Md} {f : Nat} {vs : List Value} {H : Hp} {P : Value → Hp → Prop} {draw : Bool} {s : St} {d : Option Nat} {ts : List Tk} {Q : Ex → St → Prop} (h : ∀ m' : Md, Wr m' H → m'.nr = m.nr → Fun E m' f vs H P) (hH : s.H = H) (hw : Wr m H)
    (hq : ∀ r H', P r H' → go E m ts { s with H := H', ρ := upd s.ρ d (.val r) } Q) : callT E m draw f (some vs) s d ts Q := by
  subst hH
  exact callT_ok (fun m' _ h2 h3 _ => h m' h2 h3) hw hq
section
variable (cs : List Value) (x : Value) (xs : List Value)
theorem spl_9 : spl (x :: xs) 9 cs = x :: spl xs 8 cs := spl_s cs x xs 8
theorem spl_10 : spl (x :: xs) 10 cs = x :: spl xs 9 cs := spl_s cs x xs 9
theorem spl_11 : spl (x :: xs) 11 cs = x :: spl xs 10 cs := spl_s cs x xs 10
theorem spl_12 : spl (x :: xs) 12 cs = x :: spl xs 11 cs := spl_s cs x xs 11
theorem spl_13 : spl (x :: xs) 13 cs = x :: spl xs 12 cs := spl_s cs x xs 12
theorem spl_14 : spl (x :: xs) 14 cs = x :: spl xs 13 cs := spl_s cs x xs 13
theorem spl_15 : spl (x :: xs) 15 cs = x :: spl xs 14 cs := spl_s cs x xs 14
theorem spl_16 : spl (x :: xs) 16 cs = x :: spl xs 15 cs := spl_s cs x xs 15
end
attribute [go_sem] spl_9 spl_10 spl_11 spl_12 spl_13 spl_14 spl_15 spl_16
theorem f105 {H : Hp} {x : Pr} : Scal EE 105 [.agg #[.int .i64 x.1, .int .i64 x.2]] H (.agg #[.int .i64 x.1, .int .i64 x.2]) := by
  refine scal_f rfl rfl k105 (by simp [c105]) fun m hw => ?_
  simp only [go_sem, ↓reduceIte, Nat.reduceEqDiff, reduceCtorEq, Nat.reduceAdd, Nat.reduceLeDiff, Nat.reduceMul, c105]
theorem f106 {H : Hp} {x : Re} : Scal EE 106 [.agg #[.int .i64 x.1, .int .i64 x.2.1, .int .i64 x.2.2]] H (.agg #[.int .i64 x.1, .int .i64 x.2.1, .int .i64 x.2.2]) := by
  refine scal_f rfl rfl k106 (by simp [c106]) fun m hw => ?_
  simp only [go_sem, ↓reduceIte, Nat.reduceEqDiff, reduceCtorEq, Nat.reduceAdd, Nat.reduceLeDiff, Nat.reduceMul, c106]
theorem f108 {H : Hp} {x : Re} : Scal EE 108 [.agg #[.int .i64 x.1, .int .i64 x.2.1, .int .i64 x.2.2]] H (.agg #[.int .i64 x.1, .int .i64 x.2.1, .int .i64 x.2.2]) := by
  refine scal_f rfl rfl k108 (by simp [c108]) fun m hw => ?_
  simp only [go_sem, ↓reduceIte, Nat.reduceEqDiff, reduceCtorEq, Nat.reduceAdd, Nat.reduceLeDiff, Nat.reduceMul, c108]
theorem f68 {H : Hp} {x : Wt} : Scal EE 68 [.agg #[.bool x.1, .int .i64 x.2.1, .int .i64 x.2.2.1, .int .i64 x.2.2.2]] H (.agg #[.bool x.1, .int .i64 x.2.1, .int .i64 x.2.2.1, .int .i64 x.2.2.2]) := by
  refine scal_f rfl rfl k68 (by simp [c68]) fun m hw => ?_
  simp only [go_sem, ↓reduceIte, Nat.reduceEqDiff, reduceCtorEq, Nat.reduceAdd, Nat.reduceLeDiff, Nat.reduceMul, c68]
theorem f69 {H : Hp} {x : Cr} : Scal EE 69 [.agg #[.int .i64 x.1, .int .i64 x.2.1, .int .i64 x.2.2.1, .int .i64 x.2.2.2.1, .int .i64 x.2.2.2.2.1.1, .int .i64 x.2.2.2.2.1.2.1, .int .i64 x.2.2.2.2.1.2.2, .string x.2.2.2.2.2]] H (.agg #[.int .i64 x.1, .int .i64 x.2.1, .int .i64 x.2.2.1, .int .i64 x.2.2.2.1, .int .i64 x.2.2.2.2.1.1, .int .i64 x.2.2.2.2.1.2.1, .int .i64 x.2.2.2.2.1.2.2, .string x.2.2.2.2.2]) := by
  refine scal_f rfl rfl k69 (by simp [c69]) fun m hw => ?_
  have a106 := fun {m draw s' d' ts Q} => callT_at (m := m) (draw := draw) (s := s') (d := d') (ts := ts) (Q := Q) (f106 (H := H) (x := x.2.2.2.2.1))
  simp only [go_sem, ↓reduceIte, Nat.reduceEqDiff, reduceCtorEq, Nat.reduceAdd, Nat.reduceLeDiff, Nat.reduceMul, c69, a106, hw]
theorem f71 {H : Hp} {x : Evt} : Scal EE 71 [.agg #[.int .i64 x.kd, .int .i64 x.rm, .int .i64 x.bq, .int .i64 x.cl, .int .i64 x.sv, .int .i64 x.ky, .int .i64 x.pa, .int .i64 x.ev, .int .i64 x.rs.1, .int .i64 x.rs.2.1, .int .i64 x.rs.2.2]] H (.agg #[.int .i64 x.kd, .int .i64 x.rm, .int .i64 x.bq, .int .i64 x.cl, .int .i64 x.sv, .int .i64 x.ky, .int .i64 x.pa, .int .i64 x.ev, .int .i64 x.rs.1, .int .i64 x.rs.2.1, .int .i64 x.rs.2.2]) := by
  refine scal_f rfl rfl k71 (by simp [c71]) fun m hw => ?_
  have a106 := fun {m draw s' d' ts Q} => callT_at (m := m) (draw := draw) (s := s') (d := d') (ts := ts) (Q := Q) (f106 (H := H) (x := x.rs))
  simp only [go_sem, ↓reduceIte, Nat.reduceEqDiff, reduceCtorEq, Nat.reduceAdd, Nat.reduceLeDiff, Nat.reduceMul, c71, a106, hw]
theorem f30 {m : Md} {H : Hp} {v : Value} {l : List ByteArray} (hl : Sl (En eS) 1 H v l) (hle : l.length ≤ 1048576) (hw : Wr m H) : Fun EE m 30 [v] H fun r H' => FreshS eS 1 H r H' l := by
  refine fun_f rfl rfl k30 (by simp [c30]) ?_
  obtain ⟨g1, g2⟩ := make_sl (R := En eS) (esz := 1) (H := H) (z := ⟨#[]⟩) (zero := [.string ⟨#[]⟩]) (n := l.length) (bytes := 16) rfl rfl (by unfold room; omega) (by unfold room; omega)
  generalize hsv : (Value.slice (some ⟨H.length, 0, some 1⟩) l.length (l.length * 1)) = sv at g1 g2
  have hown : OwnS H.length sv := .inr ⟨_, _, _, _, hsv.symm, Nat.le_refl _⟩
  have hids : idsOf sv = [H.length] := by rw [← hsv]; rfl
  have hwid : m.wr H.length = true := hw _ (Nat.le_refl _)
  simp only [go_sem, ↓reduceIte, Nat.reduceEqDiff, reduceCtorEq, Nat.reduceAdd, Nat.reduceLeDiff, Nat.reduceMul, c30, hl.len]
  rw [g2 _ _ _ rfl rfl rfl]
  simp only [go_sem, ↓reduceIte, Nat.reduceEqDiff, reduceCtorEq, Nat.reduceAdd, Nat.reduceLeDiff, Nat.reduceMul]
  refine go_for l.length (fun i s => H <+: s.H ∧ s.ρ 0 = .val v ∧ s.ρ 3 = .val sv ∧ s.ρ 4 = .val (.int .i64 i) ∧ Sl (En eS) 1 s.H sv (l.take i ++ List.replicate (l.length - i) ⟨#[]⟩))
    (fun s => H <+: s.H ∧ s.ρ 3 = .val sv ∧ Sl (En eS) 1 s.H sv l) ?_ ?_ ?_
  · exact ⟨List.prefix_append _ _, by simp [upd, ini], by simp [upd], by simp [upd], by simpa using g1⟩
  · rintro i s hi ⟨hH, h0, h3, h4, hs⟩
    have hl' := hl.pre hH
    have hw' := hw.pre hH
    simp only [go_sem, ↓reduceIte, Nat.reduceEqDiff, reduceCtorEq, Nat.reduceAdd, Nat.reduceLeDiff, Nat.reduceMul, h0, h3, h4, hl'.len]
    refine brT.intro (fun h1 => ?_) (fun h1 => ?_) <;> simp only [go_sem, ↓reduceIte, Nat.reduceEqDiff, reduceCtorEq, Nat.reduceAdd, Nat.reduceLeDiff, Nat.reduceMul, h0, h3, h4]
    · have h2 : i < l.length := by simpa using h1
      obtain ⟨id, p, o, ho, hr, hia⟩ := hl'.str (List.getElem?_eq_getElem h2)
      obtain ⟨id2, p2, o2, ho2, hp2, hid, hia2, hst⟩ := hs.store (i := i) (by simp; omega)
      have hid' : id2 = H.length := by rw [hids] at hid; simpa using hid.symm
      subst hid'
      simp only [go_sem, ↓reduceIte, Nat.reduceEqDiff, reduceCtorEq, Nat.reduceAdd, Nat.reduceLeDiff, Nat.reduceMul, h0, h3, h4, hia, ho, hr, hia2, ho2, hp2, hwid, wrap64 ((i : Int) + 1) (by omega) (by omega)]
      refine ⟨h2, pre_set hH (Nat.le_refl _), by simp, ?_⟩
      have := hst l[i] (eS l[i]) rfl rfl
      rw [List.take_succ_eq_append_getElem h2, List.append_assoc, List.singleton_append]
      rw [List.set_append_right _ _ (by simp; omega), show i - (l.take i).length = 0 by simp; omega, show l.length - i = (l.length - (i + 1)) + 1 by omega, List.replicate_succ, List.set_cons_zero] at this
      exact this
    · have h2 : ¬ i < l.length := by simpa using h1
      rw [List.take_of_length_le (by omega), show l.length - i = 0 by omega] at hs
      simp only [List.replicate_zero, List.append_nil] at hs
      exact ⟨hH, hs⟩
  · rintro s ⟨hH, h3, hs⟩
    simp only [go_sem, ↓reduceIte, Nat.reduceEqDiff, reduceCtorEq, Nat.reduceAdd, Nat.reduceLeDiff, Nat.reduceMul, h3]
    exact ⟨hH, hs, hown⟩
theorem f37 {m : Md} {H : Hp} {v : Value} {l : List Int} (hl : Sl (En eI) 1 H v l) (hle : l.length ≤ 1048576) (hw : Wr m H) : Fun EE m 37 [v] H fun r H' => FreshS eI 1 H r H' l := by
  refine fun_f rfl rfl k37 (by simp [c37]) ?_
  obtain ⟨g1, g2⟩ := make_sl (R := En eI) (esz := 1) (H := H) (z := (0 : Int)) (zero := [.int .i64 0]) (n := l.length) (bytes := 8) rfl rfl (by unfold room; omega) (by unfold room; omega)
  generalize hsv : (Value.slice (some ⟨H.length, 0, some 1⟩) l.length (l.length * 1)) = sv at g1 g2
  have hown : OwnS H.length sv := .inr ⟨_, _, _, _, hsv.symm, Nat.le_refl _⟩
  have hids : idsOf sv = [H.length] := by rw [← hsv]; rfl
  have hwid : m.wr H.length = true := hw _ (Nat.le_refl _)
  simp only [go_sem, ↓reduceIte, Nat.reduceEqDiff, reduceCtorEq, Nat.reduceAdd, Nat.reduceLeDiff, Nat.reduceMul, c37, hl.len]
  rw [g2 _ _ _ rfl rfl rfl]
  simp only [go_sem, ↓reduceIte, Nat.reduceEqDiff, reduceCtorEq, Nat.reduceAdd, Nat.reduceLeDiff, Nat.reduceMul]
  refine go_for l.length (fun i s => H <+: s.H ∧ s.ρ 0 = .val v ∧ s.ρ 3 = .val sv ∧ s.ρ 4 = .val (.int .i64 i) ∧ Sl (En eI) 1 s.H sv (l.take i ++ List.replicate (l.length - i) (0 : Int)))
    (fun s => H <+: s.H ∧ s.ρ 3 = .val sv ∧ Sl (En eI) 1 s.H sv l) ?_ ?_ ?_
  · exact ⟨List.prefix_append _ _, by simp [upd, ini], by simp [upd], by simp [upd], by simpa using g1⟩
  · rintro i s hi ⟨hH, h0, h3, h4, hs⟩
    have hl' := hl.pre hH
    have hw' := hw.pre hH
    simp only [go_sem, ↓reduceIte, Nat.reduceEqDiff, reduceCtorEq, Nat.reduceAdd, Nat.reduceLeDiff, Nat.reduceMul, h0, h3, h4, hl'.len]
    refine brT.intro (fun h1 => ?_) (fun h1 => ?_) <;> simp only [go_sem, ↓reduceIte, Nat.reduceEqDiff, reduceCtorEq, Nat.reduceAdd, Nat.reduceLeDiff, Nat.reduceMul, h0, h3, h4]
    · have h2 : i < l.length := by simpa using h1
      obtain ⟨id, p, o, ho, hr, hia⟩ := hl'.int (List.getElem?_eq_getElem h2)
      obtain ⟨id2, p2, o2, ho2, hp2, hid, hia2, hst⟩ := hs.store (i := i) (by simp; omega)
      have hid' : id2 = H.length := by rw [hids] at hid; simpa using hid.symm
      subst hid'
      simp only [go_sem, ↓reduceIte, Nat.reduceEqDiff, reduceCtorEq, Nat.reduceAdd, Nat.reduceLeDiff, Nat.reduceMul, h0, h3, h4, hia, ho, hr, hia2, ho2, hp2, hwid, wrap64 ((i : Int) + 1) (by omega) (by omega)]
      refine ⟨h2, pre_set hH (Nat.le_refl _), by simp, ?_⟩
      have := hst l[i] (eI l[i]) rfl rfl
      rw [List.take_succ_eq_append_getElem h2, List.append_assoc, List.singleton_append]
      rw [List.set_append_right _ _ (by simp; omega), show i - (l.take i).length = 0 by simp; omega, show l.length - i = (l.length - (i + 1)) + 1 by omega, List.replicate_succ, List.set_cons_zero] at this
      exact this
    · have h2 : ¬ i < l.length := by simpa using h1
      rw [List.take_of_length_le (by omega), show l.length - i = 0 by omega] at hs
      simp only [List.replicate_zero, List.append_nil] at hs
      exact ⟨hH, hs⟩
  · rintro s ⟨hH, h3, hs⟩
    simp only [go_sem, ↓reduceIte, Nat.reduceEqDiff, reduceCtorEq, Nat.reduceAdd, Nat.reduceLeDiff, Nat.reduceMul, h3]
    exact ⟨hH, hs, hown⟩
theorem f67 {m : Md} {H : Hp} {v : Value} {l : List Pr} (hl : Sl (En ePr) 2 H v l) (hle : l.length ≤ 1048576) (hw : Wr m H) : Fun EE m 67 [v] H fun r H' => FreshS ePr 2 H r H' l := by
  refine fun_f rfl rfl k67 (by simp [c67]) ?_
  obtain ⟨g1, g2⟩ := make_sl (R := En ePr) (esz := 2) (H := H) (z := (0, 0)) (zero := [.int .i64 0, .int .i64 0]) (n := l.length) (bytes := 16) rfl rfl (by unfold room; omega) (by unfold room; omega)
  generalize hsv : (Value.slice (some ⟨H.length, 0, some 2⟩) l.length (l.length * 2)) = sv at g1 g2
  have hown : OwnS H.length sv := .inr ⟨_, _, _, _, hsv.symm, Nat.le_refl _⟩
  have hids : idsOf sv = [H.length] := by rw [← hsv]; rfl
  have hwid : m.wr H.length = true := hw _ (Nat.le_refl _)
  simp only [go_sem, ↓reduceIte, Nat.reduceEqDiff, reduceCtorEq, Nat.reduceAdd, Nat.reduceLeDiff, Nat.reduceMul, c67, hl.len]
  rw [g2 _ _ _ rfl rfl rfl]
  simp only [go_sem, ↓reduceIte, Nat.reduceEqDiff, reduceCtorEq, Nat.reduceAdd, Nat.reduceLeDiff, Nat.reduceMul]
  refine go_for l.length (fun i s => H <+: s.H ∧ s.ρ 0 = .val v ∧ s.ρ 3 = .val sv ∧ s.ρ 4 = .val (.int .i64 i) ∧ Sl (En ePr) 2 s.H sv (l.take i ++ List.replicate (l.length - i) (0, 0)))
    (fun s => H <+: s.H ∧ s.ρ 3 = .val sv ∧ Sl (En ePr) 2 s.H sv l) ?_ ?_ ?_
  · exact ⟨List.prefix_append _ _, by simp [upd, ini], by simp [upd], by simp [upd], by simpa using g1⟩
  · rintro i s hi ⟨hH, h0, h3, h4, hs⟩
    have hl' := hl.pre hH
    have hw' := hw.pre hH
    simp only [go_sem, ↓reduceIte, Nat.reduceEqDiff, reduceCtorEq, Nat.reduceAdd, Nat.reduceLeDiff, Nat.reduceMul, h0, h3, h4, hl'.len]
    refine brT.intro (fun h1 => ?_) (fun h1 => ?_) <;> simp only [go_sem, ↓reduceIte, Nat.reduceEqDiff, reduceCtorEq, Nat.reduceAdd, Nat.reduceLeDiff, Nat.reduceMul, h0, h3, h4]
    · have h2 : i < l.length := by simpa using h1
      obtain ⟨id, p, o, ho, hr, hp, hia⟩ := hl'.elem (List.getElem?_eq_getElem h2)
      have hr : (o.drop p).take 2 = ePr l[i] := hr
      unfold ePr at hr
      have ak := fun {m draw s' d' ts Q} => callT_at (m := m) (draw := draw) (s := s') (d := d') (ts := ts) (Q := Q) (f105 (H := s.H) (x := l[i]))
      obtain ⟨id2, p2, o2, ho2, hp2, hid, hia2, hst⟩ := hs.store (i := i) (by simp; omega)
      have hid' : id2 = H.length := by rw [hids] at hid; simpa using hid.symm
      subst hid'
      simp only [go_sem, ↓reduceIte, Nat.reduceEqDiff, reduceCtorEq, Nat.reduceAdd, Nat.reduceLeDiff, Nat.reduceMul, h0, h3, h4, hia, ho, hr, hp, ak, hw', hia2, ho2, hp2, hwid, wrap64 ((i : Int) + 1) (by omega) (by omega)]
      refine ⟨h2, pre_set hH (Nat.le_refl _), by simp, ?_⟩
      have := hst l[i] (ePr l[i]) rfl rfl
      rw [List.take_succ_eq_append_getElem h2, List.append_assoc, List.singleton_append]
      rw [List.set_append_right _ _ (by simp; omega), show i - (l.take i).length = 0 by simp; omega, show l.length - i = (l.length - (i + 1)) + 1 by omega, List.replicate_succ, List.set_cons_zero] at this
      exact this
    · have h2 : ¬ i < l.length := by simpa using h1
      rw [List.take_of_length_le (by omega), show l.length - i = 0 by omega] at hs
      simp only [List.replicate_zero, List.append_nil] at hs
      exact ⟨hH, hs⟩
  · rintro s ⟨hH, h3, hs⟩
    simp only [go_sem, ↓reduceIte, Nat.reduceEqDiff, reduceCtorEq, Nat.reduceAdd, Nat.reduceLeDiff, Nat.reduceMul, h3]
    exact ⟨hH, hs, hown⟩
theorem f32 {m : Md} {H : Hp} {v : Value} {l : List Wt} (hl : Sl (En eWt) 4 H v l) (hle : l.length ≤ 1048576) (hw : Wr m H) : Fun EE m 32 [v] H fun r H' => FreshS eWt 4 H r H' l := by
  refine fun_f rfl rfl k32 (by simp [c32]) ?_
  obtain ⟨g1, g2⟩ := make_sl (R := En eWt) (esz := 4) (H := H) (z := (false, 0, 0, 0)) (zero := [.bool false, .int .i64 0, .int .i64 0, .int .i64 0]) (n := l.length) (bytes := 32) rfl rfl (by unfold room; omega) (by unfold room; omega)
  generalize hsv : (Value.slice (some ⟨H.length, 0, some 4⟩) l.length (l.length * 4)) = sv at g1 g2
  have hown : OwnS H.length sv := .inr ⟨_, _, _, _, hsv.symm, Nat.le_refl _⟩
  have hids : idsOf sv = [H.length] := by rw [← hsv]; rfl
  have hwid : m.wr H.length = true := hw _ (Nat.le_refl _)
  simp only [go_sem, ↓reduceIte, Nat.reduceEqDiff, reduceCtorEq, Nat.reduceAdd, Nat.reduceLeDiff, Nat.reduceMul, c32, hl.len]
  rw [g2 _ _ _ rfl rfl rfl]
  simp only [go_sem, ↓reduceIte, Nat.reduceEqDiff, reduceCtorEq, Nat.reduceAdd, Nat.reduceLeDiff, Nat.reduceMul]
  refine go_for l.length (fun i s => H <+: s.H ∧ s.ρ 0 = .val v ∧ s.ρ 3 = .val sv ∧ s.ρ 4 = .val (.int .i64 i) ∧ Sl (En eWt) 4 s.H sv (l.take i ++ List.replicate (l.length - i) (false, 0, 0, 0)))
    (fun s => H <+: s.H ∧ s.ρ 3 = .val sv ∧ Sl (En eWt) 4 s.H sv l) ?_ ?_ ?_
  · exact ⟨List.prefix_append _ _, by simp [upd, ini], by simp [upd], by simp [upd], by simpa using g1⟩
  · rintro i s hi ⟨hH, h0, h3, h4, hs⟩
    have hl' := hl.pre hH
    have hw' := hw.pre hH
    simp only [go_sem, ↓reduceIte, Nat.reduceEqDiff, reduceCtorEq, Nat.reduceAdd, Nat.reduceLeDiff, Nat.reduceMul, h0, h3, h4, hl'.len]
    refine brT.intro (fun h1 => ?_) (fun h1 => ?_) <;> simp only [go_sem, ↓reduceIte, Nat.reduceEqDiff, reduceCtorEq, Nat.reduceAdd, Nat.reduceLeDiff, Nat.reduceMul, h0, h3, h4]
    · have h2 : i < l.length := by simpa using h1
      obtain ⟨id, p, o, ho, hr, hp, hia⟩ := hl'.elem (List.getElem?_eq_getElem h2)
      have hr : (o.drop p).take 4 = eWt l[i] := hr
      unfold eWt at hr
      have ak := fun {m draw s' d' ts Q} => callT_at (m := m) (draw := draw) (s := s') (d := d') (ts := ts) (Q := Q) (f68 (H := s.H) (x := l[i]))
      obtain ⟨id2, p2, o2, ho2, hp2, hid, hia2, hst⟩ := hs.store (i := i) (by simp; omega)
      have hid' : id2 = H.length := by rw [hids] at hid; simpa using hid.symm
      subst hid'
      simp only [go_sem, ↓reduceIte, Nat.reduceEqDiff, reduceCtorEq, Nat.reduceAdd, Nat.reduceLeDiff, Nat.reduceMul, h0, h3, h4, hia, ho, hr, hp, ak, hw', hia2, ho2, hp2, hwid, wrap64 ((i : Int) + 1) (by omega) (by omega)]
      refine ⟨h2, pre_set hH (Nat.le_refl _), by simp, ?_⟩
      have := hst l[i] (eWt l[i]) rfl rfl
      rw [List.take_succ_eq_append_getElem h2, List.append_assoc, List.singleton_append]
      rw [List.set_append_right _ _ (by simp; omega), show i - (l.take i).length = 0 by simp; omega, show l.length - i = (l.length - (i + 1)) + 1 by omega, List.replicate_succ, List.set_cons_zero] at this
      exact this
    · have h2 : ¬ i < l.length := by simpa using h1
      rw [List.take_of_length_le (by omega), show l.length - i = 0 by omega] at hs
      simp only [List.replicate_zero, List.append_nil] at hs
      exact ⟨hH, hs⟩
  · rintro s ⟨hH, h3, hs⟩
    simp only [go_sem, ↓reduceIte, Nat.reduceEqDiff, reduceCtorEq, Nat.reduceAdd, Nat.reduceLeDiff, Nat.reduceMul, h3]
    exact ⟨hH, hs, hown⟩
theorem f33 {m : Md} {H : Hp} {v : Value} {l : List Cr} (hl : Sl (En eCr) 8 H v l) (hle : l.length ≤ 1048576) (hw : Wr m H) : Fun EE m 33 [v] H fun r H' => FreshS eCr 8 H r H' l := by
  refine fun_f rfl rfl k33 (by simp [c33]) ?_
  obtain ⟨g1, g2⟩ := make_sl (R := En eCr) (esz := 8) (H := H) (z := (0, 0, 0, 0, (0, 0, 0), ⟨#[]⟩)) (zero := [.int .i64 0, .int .i64 0, .int .i64 0, .int .i64 0, .int .i64 0, .int .i64 0, .int .i64 0, .string ⟨#[]⟩]) (n := l.length) (bytes := 72) rfl rfl (by unfold room; omega) (by unfold room; omega)
  generalize hsv : (Value.slice (some ⟨H.length, 0, some 8⟩) l.length (l.length * 8)) = sv at g1 g2
  have hown : OwnS H.length sv := .inr ⟨_, _, _, _, hsv.symm, Nat.le_refl _⟩
  have hids : idsOf sv = [H.length] := by rw [← hsv]; rfl
  have hwid : m.wr H.length = true := hw _ (Nat.le_refl _)
  simp only [go_sem, ↓reduceIte, Nat.reduceEqDiff, reduceCtorEq, Nat.reduceAdd, Nat.reduceLeDiff, Nat.reduceMul, c33, hl.len]
  rw [g2 _ _ _ rfl rfl rfl]
  simp only [go_sem, ↓reduceIte, Nat.reduceEqDiff, reduceCtorEq, Nat.reduceAdd, Nat.reduceLeDiff, Nat.reduceMul]
  refine go_for l.length (fun i s => H <+: s.H ∧ s.ρ 0 = .val v ∧ s.ρ 3 = .val sv ∧ s.ρ 4 = .val (.int .i64 i) ∧ Sl (En eCr) 8 s.H sv (l.take i ++ List.replicate (l.length - i) (0, 0, 0, 0, (0, 0, 0), ⟨#[]⟩)))
    (fun s => H <+: s.H ∧ s.ρ 3 = .val sv ∧ Sl (En eCr) 8 s.H sv l) ?_ ?_ ?_
  · exact ⟨List.prefix_append _ _, by simp [upd, ini], by simp [upd], by simp [upd], by simpa using g1⟩
  · rintro i s hi ⟨hH, h0, h3, h4, hs⟩
    have hl' := hl.pre hH
    have hw' := hw.pre hH
    simp only [go_sem, ↓reduceIte, Nat.reduceEqDiff, reduceCtorEq, Nat.reduceAdd, Nat.reduceLeDiff, Nat.reduceMul, h0, h3, h4, hl'.len]
    refine brT.intro (fun h1 => ?_) (fun h1 => ?_) <;> simp only [go_sem, ↓reduceIte, Nat.reduceEqDiff, reduceCtorEq, Nat.reduceAdd, Nat.reduceLeDiff, Nat.reduceMul, h0, h3, h4]
    · have h2 : i < l.length := by simpa using h1
      obtain ⟨id, p, o, ho, hr, hp, hia⟩ := hl'.elem (List.getElem?_eq_getElem h2)
      have hr : (o.drop p).take 8 = eCr l[i] := hr
      unfold eCr at hr
      have ak := fun {m draw s' d' ts Q} => callT_at (m := m) (draw := draw) (s := s') (d := d') (ts := ts) (Q := Q) (f69 (H := s.H) (x := l[i]))
      obtain ⟨id2, p2, o2, ho2, hp2, hid, hia2, hst⟩ := hs.store (i := i) (by simp; omega)
      have hid' : id2 = H.length := by rw [hids] at hid; simpa using hid.symm
      subst hid'
      simp only [go_sem, ↓reduceIte, Nat.reduceEqDiff, reduceCtorEq, Nat.reduceAdd, Nat.reduceLeDiff, Nat.reduceMul, h0, h3, h4, hia, ho, hr, hp, ak, hw', hia2, ho2, hp2, hwid, wrap64 ((i : Int) + 1) (by omega) (by omega)]
      refine ⟨h2, pre_set hH (Nat.le_refl _), by simp, ?_⟩
      have := hst l[i] (eCr l[i]) rfl rfl
      rw [List.take_succ_eq_append_getElem h2, List.append_assoc, List.singleton_append]
      rw [List.set_append_right _ _ (by simp; omega), show i - (l.take i).length = 0 by simp; omega, show l.length - i = (l.length - (i + 1)) + 1 by omega, List.replicate_succ, List.set_cons_zero] at this
      exact this
    · have h2 : ¬ i < l.length := by simpa using h1
      rw [List.take_of_length_le (by omega), show l.length - i = 0 by omega] at hs
      simp only [List.replicate_zero, List.append_nil] at hs
      exact ⟨hH, hs⟩
  · rintro s ⟨hH, h3, hs⟩
    simp only [go_sem, ↓reduceIte, Nat.reduceEqDiff, reduceCtorEq, Nat.reduceAdd, Nat.reduceLeDiff, Nat.reduceMul, h3]
    exact ⟨hH, hs, hown⟩
theorem f35 {m : Md} {H : Hp} {v : Value} {l : List Evt} (hl : Sl (En eEv) 11 H v l) (hle : l.length ≤ 1048576) (hw : Wr m H) : Fun EE m 35 [v] H fun r H' => FreshS eEv 11 H r H' l := by
  refine fun_f rfl rfl k35 (by simp [c35]) ?_
  obtain ⟨g1, g2⟩ := make_sl (R := En eEv) (esz := 11) (H := H) (z := (⟨0, 0, 0, 0, 0, 0, 0, 0, (0, 0, 0)⟩ : Evt)) (zero := [.int .i64 0, .int .i64 0, .int .i64 0, .int .i64 0, .int .i64 0, .int .i64 0, .int .i64 0, .int .i64 0, .int .i64 0, .int .i64 0, .int .i64 0]) (n := l.length) (bytes := 88) rfl rfl (by unfold room; omega) (by unfold room; omega)
  generalize hsv : (Value.slice (some ⟨H.length, 0, some 11⟩) l.length (l.length * 11)) = sv at g1 g2
  have hown : OwnS H.length sv := .inr ⟨_, _, _, _, hsv.symm, Nat.le_refl _⟩
  have hids : idsOf sv = [H.length] := by rw [← hsv]; rfl
  have hwid : m.wr H.length = true := hw _ (Nat.le_refl _)
  simp only [go_sem, ↓reduceIte, Nat.reduceEqDiff, reduceCtorEq, Nat.reduceAdd, Nat.reduceLeDiff, Nat.reduceMul, c35, hl.len]
  rw [g2 _ _ _ rfl rfl rfl]
  simp only [go_sem, ↓reduceIte, Nat.reduceEqDiff, reduceCtorEq, Nat.reduceAdd, Nat.reduceLeDiff, Nat.reduceMul]
  refine go_for l.length (fun i s => H <+: s.H ∧ s.ρ 0 = .val v ∧ s.ρ 3 = .val sv ∧ s.ρ 4 = .val (.int .i64 i) ∧ Sl (En eEv) 11 s.H sv (l.take i ++ List.replicate (l.length - i) (⟨0, 0, 0, 0, 0, 0, 0, 0, (0, 0, 0)⟩ : Evt)))
    (fun s => H <+: s.H ∧ s.ρ 3 = .val sv ∧ Sl (En eEv) 11 s.H sv l) ?_ ?_ ?_
  · exact ⟨List.prefix_append _ _, by simp [upd, ini], by simp [upd], by simp [upd], by simpa using g1⟩
  · rintro i s hi ⟨hH, h0, h3, h4, hs⟩
    have hl' := hl.pre hH
    have hw' := hw.pre hH
    simp only [go_sem, ↓reduceIte, Nat.reduceEqDiff, reduceCtorEq, Nat.reduceAdd, Nat.reduceLeDiff, Nat.reduceMul, h0, h3, h4, hl'.len]
    refine brT.intro (fun h1 => ?_) (fun h1 => ?_) <;> simp only [go_sem, ↓reduceIte, Nat.reduceEqDiff, reduceCtorEq, Nat.reduceAdd, Nat.reduceLeDiff, Nat.reduceMul, h0, h3, h4]
    · have h2 : i < l.length := by simpa using h1
      obtain ⟨id, p, o, ho, hr, hp, hia⟩ := hl'.elem (List.getElem?_eq_getElem h2)
      have hr : (o.drop p).take 11 = eEv l[i] := hr
      unfold eEv at hr
      have ak := fun {m draw s' d' ts Q} => callT_at (m := m) (draw := draw) (s := s') (d := d') (ts := ts) (Q := Q) (f71 (H := s.H) (x := l[i]))
      obtain ⟨id2, p2, o2, ho2, hp2, hid, hia2, hst⟩ := hs.store (i := i) (by simp; omega)
      have hid' : id2 = H.length := by rw [hids] at hid; simpa using hid.symm
      subst hid'
      simp only [go_sem, ↓reduceIte, Nat.reduceEqDiff, reduceCtorEq, Nat.reduceAdd, Nat.reduceLeDiff, Nat.reduceMul, h0, h3, h4, hia, ho, hr, hp, ak, hw', hia2, ho2, hp2, hwid, wrap64 ((i : Int) + 1) (by omega) (by omega)]
      refine ⟨h2, pre_set hH (Nat.le_refl _), by simp, ?_⟩
      have := hst l[i] (eEv l[i]) rfl rfl
      rw [List.take_succ_eq_append_getElem h2, List.append_assoc, List.singleton_append]
      rw [List.set_append_right _ _ (by simp; omega), show i - (l.take i).length = 0 by simp; omega, show l.length - i = (l.length - (i + 1)) + 1 by omega, List.replicate_succ, List.set_cons_zero] at this
      exact this
    · have h2 : ¬ i < l.length := by simpa using h1
      rw [List.take_of_length_le (by omega), show l.length - i = 0 by omega] at hs
      simp only [List.replicate_zero, List.append_nil] at hs
      exact ⟨hH, hs⟩
  · rintro s ⟨hH, h3, hs⟩
    simp only [go_sem, ↓reduceIte, Nat.reduceEqDiff, reduceCtorEq, Nat.reduceAdd, Nat.reduceLeDiff, Nat.reduceMul, h3]
    exact ⟨hH, hs, hown⟩
theorem f107 {m : Md} {H : Hp} {v : Value} {l : List Re} (hl : Sl (En eRe) 3 H v l) (hle : l.length ≤ 1048576) (hw : Wr m H) : Fun EE m 107 [v] H fun r H' => FreshS eRe 3 H r H' l := by
  refine fun_f rfl rfl k107 (by simp [c107]) ?_
  obtain ⟨g1, g2⟩ := make_sl (R := En eRe) (esz := 3) (H := H) (z := (0, 0, 0)) (zero := [.int .i64 0, .int .i64 0, .int .i64 0]) (n := l.length) (bytes := 24) rfl rfl (by unfold room; omega) (by unfold room; omega)
  generalize hsv : (Value.slice (some ⟨H.length, 0, some 3⟩) l.length (l.length * 3)) = sv at g1 g2
  have hown : OwnS H.length sv := .inr ⟨_, _, _, _, hsv.symm, Nat.le_refl _⟩
  have hids : idsOf sv = [H.length] := by rw [← hsv]; rfl
  have hwid : m.wr H.length = true := hw _ (Nat.le_refl _)
  simp only [go_sem, ↓reduceIte, Nat.reduceEqDiff, reduceCtorEq, Nat.reduceAdd, Nat.reduceLeDiff, Nat.reduceMul, c107, hl.len]
  rw [g2 _ _ _ rfl rfl rfl]
  simp only [go_sem, ↓reduceIte, Nat.reduceEqDiff, reduceCtorEq, Nat.reduceAdd, Nat.reduceLeDiff, Nat.reduceMul]
  refine go_for l.length (fun i s => H <+: s.H ∧ s.ρ 0 = .val v ∧ s.ρ 3 = .val sv ∧ s.ρ 4 = .val (.int .i64 i) ∧ Sl (En eRe) 3 s.H sv (l.take i ++ List.replicate (l.length - i) (0, 0, 0)))
    (fun s => H <+: s.H ∧ s.ρ 3 = .val sv ∧ Sl (En eRe) 3 s.H sv l) ?_ ?_ ?_
  · exact ⟨List.prefix_append _ _, by simp [upd, ini], by simp [upd], by simp [upd], by simpa using g1⟩
  · rintro i s hi ⟨hH, h0, h3, h4, hs⟩
    have hl' := hl.pre hH
    have hw' := hw.pre hH
    simp only [go_sem, ↓reduceIte, Nat.reduceEqDiff, reduceCtorEq, Nat.reduceAdd, Nat.reduceLeDiff, Nat.reduceMul, h0, h3, h4, hl'.len]
    refine brT.intro (fun h1 => ?_) (fun h1 => ?_) <;> simp only [go_sem, ↓reduceIte, Nat.reduceEqDiff, reduceCtorEq, Nat.reduceAdd, Nat.reduceLeDiff, Nat.reduceMul, h0, h3, h4]
    · have h2 : i < l.length := by simpa using h1
      obtain ⟨id, p, o, ho, hr, hp, hia⟩ := hl'.elem (List.getElem?_eq_getElem h2)
      have hr : (o.drop p).take 3 = eRe l[i] := hr
      unfold eRe at hr
      have ak := fun {m draw s' d' ts Q} => callT_at (m := m) (draw := draw) (s := s') (d := d') (ts := ts) (Q := Q) (f108 (H := s.H) (x := l[i]))
      obtain ⟨id2, p2, o2, ho2, hp2, hid, hia2, hst⟩ := hs.store (i := i) (by simp; omega)
      have hid' : id2 = H.length := by rw [hids] at hid; simpa using hid.symm
      subst hid'
      simp only [go_sem, ↓reduceIte, Nat.reduceEqDiff, reduceCtorEq, Nat.reduceAdd, Nat.reduceLeDiff, Nat.reduceMul, h0, h3, h4, hia, ho, hr, hp, ak, hw', hia2, ho2, hp2, hwid, wrap64 ((i : Int) + 1) (by omega) (by omega)]
      refine ⟨h2, pre_set hH (Nat.le_refl _), by simp, ?_⟩
      have := hst l[i] (eRe l[i]) rfl rfl
      rw [List.take_succ_eq_append_getElem h2, List.append_assoc, List.singleton_append]
      rw [List.set_append_right _ _ (by simp; omega), show i - (l.take i).length = 0 by simp; omega, show l.length - i = (l.length - (i + 1)) + 1 by omega, List.replicate_succ, List.set_cons_zero] at this
      exact this
    · have h2 : ¬ i < l.length := by simpa using h1
      rw [List.take_of_length_le (by omega), show l.length - i = 0 by omega] at hs
      simp only [List.replicate_zero, List.append_nil] at hs
      exact ⟨hH, hs⟩
  · rintro s ⟨hH, h3, hs⟩
    simp only [go_sem, ↓reduceIte, Nat.reduceEqDiff, reduceCtorEq, Nat.reduceAdd, Nat.reduceLeDiff, Nat.reduceMul, h3]
    exact ⟨hH, hs, hown⟩

/-- Caches and accepts whose rows lie behind a row. -/
def RChk (x : Nat) (H : Hp) (c : Ch) (cs : List Value) : Prop := ∃ r, cs = [.int .i64 c.1, r] ∧ SlAu H r c.2 ∧ ∀ j ∈ idsOf r, x < j
def RAck (x : Nat) (H : Hp) (a : Acp) (cs : List Value) : Prop := ∃ p v, cs = [.int .i64 a.sv, .int .i64 a.cl, .int .i64 a.ky, .int .i64 a.op, .int .i64 a.nw, .int .i64 a.au.1, .int .i64 a.au.2.1, .int .i64 a.au.2.2, .int .i64 a.rs.1, .int .i64 a.rs.2.1, .int .i64 a.rs.2.2, p, v, .int .i64 a.lk, .string a.tk] ∧ SlI H p a.pa ∧ SlI H v a.vi ∧ (∀ j ∈ idsOf p, x < j) ∧ ∀ j ∈ idsOf v, x < j
theorem RChk.pre {x : Nat} {H H' : Hp} {c : Ch} {cs : List Value} (h : RChk x H c cs) (hp : H <+: H') : RChk x H' c cs := by
  obtain ⟨r, e, a, b⟩ := h
  exact ⟨r, e, a.pre hp, b⟩
theorem RAck.pre {x : Nat} {H H' : Hp} {c : Acp} {cs : List Value} (h : RAck x H c cs) (hp : H <+: H') : RAck x H' c cs := by
  obtain ⟨p, v, e, a, b, d⟩ := h
  exact ⟨p, v, e, a.pre hp, b.pre hp, d⟩
theorem RChk.set {x : Nat} {H : Hp} {o : List Value} {c : Ch} {cs : List Value} (h : RChk x H c cs) : RChk x (H.set x o) c cs := by
  obtain ⟨r, e, a, b⟩ := h
  exact ⟨r, e, a.other (fun h => by have := b _ h; omega), b⟩
theorem RAck.set {x : Nat} {H : Hp} {o : List Value} {c : Acp} {cs : List Value} (h : RAck x H c cs) : RAck x (H.set x o) c cs := by
  obtain ⟨p, v, e, a, b, d, d2⟩ := h
  exact ⟨p, v, e, a.other (fun h => by have := d _ h; omega), b.other (fun h => by have := d2 _ h; omega), d, d2⟩
theorem RChk.r {x : Nat} {H : Hp} {c : Ch} {cs : List Value} (h : RChk x H c cs) : RCh H c cs := by
  obtain ⟨r, e, a, b⟩ := h
  exact ⟨r, e, a⟩
theorem RAck.r {x : Nat} {H : Hp} {c : Acp} {cs : List Value} (h : RAck x H c cs) : RAc H c cs := by
  obtain ⟨p, v, e, a, b, d, d2⟩ := h
  exact ⟨p, v, e, a, b⟩
/-- A cache's copy. -/
theorem f70 {m : Md} {H : Hp} {c : Ch} {w : Value} (hs : SlAu H w c.2) (hle : c.2.length ≤ 1048576) (hw : Wr m H) : Fun EE m 70 [.agg #[.int .i64 c.1, w]] H fun r H' => ∃ u, r = .agg #[.int .i64 c.1, u] ∧ H <+: H' ∧ SlAu H' u c.2 ∧ OwnS H.length u := by
  refine fun_f rfl rfl k70 (by simp [c70]) ?_
  simp only [go_sem, ↓reduceIte, Nat.reduceEqDiff, reduceCtorEq, Nat.reduceAdd, Nat.reduceLeDiff, Nat.reduceMul, c70, hs.vc]
  refine callT_to (fun m' h => f107 hs hle h) rfl hw fun r1 H1 ⟨p1, s1, o1⟩ => ?_
  simp only [go_sem, ↓reduceIte, Nat.reduceEqDiff, reduceCtorEq, Nat.reduceAdd, Nat.reduceLeDiff, Nat.reduceMul, s1.vc]
  exact ⟨r1, rfl, p1, s1, o1⟩
theorem f72 {m : Md} {H : Hp} {a : Acp} {p v : Value} (hp : SlI H p a.pa) (hv : SlI H v a.vi) (hl1 : a.pa.length ≤ 1048576) (hl2 : a.vi.length ≤ 1048576) (hw : Wr m H) :
    Fun EE m 72 [.agg #[.int .i64 a.sv, .int .i64 a.cl, .int .i64 a.ky, .int .i64 a.op, .int .i64 a.nw, .int .i64 a.au.1, .int .i64 a.au.2.1, .int .i64 a.au.2.2, .int .i64 a.rs.1, .int .i64 a.rs.2.1, .int .i64 a.rs.2.2, p, v, .int .i64 a.lk, .string a.tk]] H
      fun r H' => ∃ p' v', r = .agg #[.int .i64 a.sv, .int .i64 a.cl, .int .i64 a.ky, .int .i64 a.op, .int .i64 a.nw, .int .i64 a.au.1, .int .i64 a.au.2.1, .int .i64 a.au.2.2, .int .i64 a.rs.1, .int .i64 a.rs.2.1, .int .i64 a.rs.2.2, p', v', .int .i64 a.lk, .string a.tk] ∧ H <+: H' ∧ SlI H' p' a.pa ∧ SlI H' v' a.vi ∧ OwnS H.length p' ∧ OwnS H.length v' := by
  refine fun_f rfl rfl k72 (by simp [c72]) ?_
  have a106 := fun {m draw s' d' ts Q} => callT_at (m := m) (draw := draw) (s := s') (d := d') (ts := ts) (Q := Q) (f106 (H := H) (x := a.rs))
  have a108 := fun {m draw s' d' ts Q} => callT_at (m := m) (draw := draw) (s := s') (d := d') (ts := ts) (Q := Q) (f108 (H := H) (x := a.au))
  simp only [go_sem, ↓reduceIte, Nat.reduceEqDiff, reduceCtorEq, Nat.reduceAdd, Nat.reduceLeDiff, Nat.reduceMul, c72, hp.vc, hv.vc, a106, a108, hw]
  refine callT_to (fun m' h => f37 hp hl1 h) rfl hw fun r1 H1 ⟨p1, s1, o1⟩ => ?_
  simp only [go_sem, ↓reduceIte, Nat.reduceEqDiff, reduceCtorEq, Nat.reduceAdd, Nat.reduceLeDiff, Nat.reduceMul, s1.vc, hp.vc, hv.vc]
  refine callT_to (fun m' h => f37 (hv.pre p1) hl2 h) rfl (hw.pre p1) fun r2 H2 ⟨p2, s2, o2⟩ => ?_
  simp only [go_sem, ↓reduceIte, Nat.reduceEqDiff, reduceCtorEq, Nat.reduceAdd, Nat.reduceLeDiff, Nat.reduceMul, s1.vc, s2.vc, hp.vc, hv.vc]
  exact ⟨r1, r2, rfl, p1.trans p2, s1.pre p2, s2, o1, o2.mono p1.length_le⟩
theorem f34 {m : Md} {H : Hp} {v : Value} {l : List Ch} (hl : Sl (RCh H) 2 H v l) (hle : l.length ≤ 1048576) (hb : ∀ x ∈ l, x.2.length ≤ 1048576) (hw : Wr m H) (hnr : m.nr = false) : Fun EE m 34 [v] H fun r H' => H <+: H' ∧ Sl (RCh H') 2 H' r l ∧ OwnS H.length r := by
  refine fun_f rfl rfl k34 (by simp [c34]) ?_
  obtain ⟨g1, g2⟩ := make_sl (R := RChk H.length (H ++ [zeros l.length [.int .i64 0, .slice none 0 0]])) (esz := 2) (H := H) (z := (0, [])) (zero := [.int .i64 0, .slice none 0 0]) (n := l.length) (bytes := 32) rfl
    ⟨_, rfl, .inl ⟨rfl, rfl⟩, by simp [idsOf]⟩ (by unfold room; omega) (by unfold room; omega)
  generalize hsv : (Value.slice (some ⟨H.length, 0, some 2⟩) l.length (l.length * 2)) = sv at g1 g2
  have hown : OwnS H.length sv := .inr ⟨_, _, _, _, hsv.symm, Nat.le_refl _⟩
  have hids : idsOf sv = [H.length] := by rw [← hsv]; rfl
  have hwid : m.wr H.length = true := hw _ (Nat.le_refl _)
  simp only [go_sem, ↓reduceIte, Nat.reduceEqDiff, reduceCtorEq, Nat.reduceAdd, Nat.reduceLeDiff, Nat.reduceMul, c34, hl.len]
  rw [g2 _ _ _ rfl rfl rfl]
  simp only [go_sem, ↓reduceIte, Nat.reduceEqDiff, reduceCtorEq, Nat.reduceAdd, Nat.reduceLeDiff, Nat.reduceMul]
  refine go_for l.length (fun i s => H <+: s.H ∧ s.ρ 0 = .val v ∧ s.ρ 3 = .val sv ∧ s.ρ 4 = .val (.int .i64 i) ∧ H.length < s.H.length ∧ Sl (RChk H.length s.H) 2 s.H sv (l.take i ++ List.replicate (l.length - i) (0, [])))
    (fun s => H <+: s.H ∧ s.ρ 3 = .val sv ∧ Sl (RChk H.length s.H) 2 s.H sv l) ?_ ?_ ?_
  · exact ⟨List.prefix_append _ _, by simp [upd, ini], by simp [upd], by simp [upd], by simp, by simpa using g1⟩
  · rintro i s hi ⟨hH, h0, h3, h4, hlt, hs⟩
    have hl' := (hl.pre hH).frame (R' := RCh s.H) (fun _ _ _ h => h.pre hH) fun _ _ _ _ _ _ => rfl
    have hw' := hw.pre hH
    simp only [go_sem, ↓reduceIte, Nat.reduceEqDiff, reduceCtorEq, Nat.reduceAdd, Nat.reduceLeDiff, Nat.reduceMul, h0, h3, h4, hl'.len]
    refine brT.intro (fun h1 => ?_) (fun h1 => ?_) <;> simp only [go_sem, ↓reduceIte, Nat.reduceEqDiff, reduceCtorEq, Nat.reduceAdd, Nat.reduceLeDiff, Nat.reduceMul, h0, h3, h4]
    · have h2 : i < l.length := by simpa using h1
      obtain ⟨id, p, o, ho, ⟨w, hr, hsw⟩, hp, hia⟩ := hl'.elem (List.getElem?_eq_getElem h2)
      simp only [go_sem, ↓reduceIte, Nat.reduceEqDiff, reduceCtorEq, Nat.reduceAdd, Nat.reduceLeDiff, Nat.reduceMul, h0, h3, h4, hia, ho, hr, hp]
      refine callT_to (fun m' h => f70 hsw (hb _ (List.getElem_mem h2)) h) rfl hw' fun r1 H1 ⟨u', e1, p1, s1, o1⟩ => ?_
      subst e1
      have hs1 : Sl (RChk H.length H1) 2 H1 sv (l.take i ++ List.replicate (l.length - i) (0, [])) := (hs.pre p1).frame (fun _ _ _ h => h.pre p1) fun _ _ _ _ _ _ => rfl
      obtain ⟨id2, p2, o3, ho2, hp2, hid, hia2, hst⟩ := hs1.store (i := i) (by simp; omega)
      have hid' : id2 = H.length := by rw [hids] at hid; simpa using hid.symm
      subst hid'
      simp only [go_sem, ↓reduceIte, Nat.reduceEqDiff, reduceCtorEq, Nat.reduceAdd, Nat.reduceLeDiff, Nat.reduceMul, h0, h3, h4, hia2, ho2, hp2, hwid, hnr, wrap64 ((i : Int) + 1) (by omega) (by omega), Bool.false_eq_true, false_implies]
      refine ⟨h2, pre_set (hH.trans p1) (by omega), by simp, ?_, ?_⟩
      · have := p1.length_le
        try simp only [List.length_set]
        omega
      have := hst l[i] [.int .i64 l[i].1, u'] rfl ⟨u', rfl, s1, fun j hj => by have := own_ge o1 j hj; omega⟩
      rw [List.take_succ_eq_append_getElem h2, List.append_assoc, List.singleton_append]
      rw [List.set_append_right _ _ (by simp; omega), show i - (l.take i).length = 0 by simp; omega, show l.length - i = (l.length - (i + 1)) + 1 by omega, List.replicate_succ, List.set_cons_zero] at this
      exact this.frame (fun _ _ _ h => h.set) fun _ _ _ _ _ _ => rfl
    · have h2 : ¬ i < l.length := by simpa using h1
      rw [List.take_of_length_le (by omega), show l.length - i = 0 by omega] at hs
      simp only [List.replicate_zero, List.append_nil] at hs
      exact ⟨hH, hs⟩
  · rintro s ⟨hH, h3, hs⟩
    simp only [go_sem, ↓reduceIte, Nat.reduceEqDiff, reduceCtorEq, Nat.reduceAdd, Nat.reduceLeDiff, Nat.reduceMul, h3]
    exact ⟨hH, hs.frame (fun _ _ _ h => h.r) (fun _ _ _ _ _ _ => rfl), hown⟩
theorem f36 {m : Md} {H : Hp} {v : Value} {l : List Acp} (hl : Sl (RAc H) 15 H v l) (hle : l.length ≤ 1048576) (hb : ∀ x ∈ l, x.pa.length ≤ 1048576 ∧ x.vi.length ≤ 1048576) (hw : Wr m H) (hnr : m.nr = false) : Fun EE m 36 [v] H fun r H' => H <+: H' ∧ Sl (RAc H') 15 H' r l ∧ OwnS H.length r := by
  refine fun_f rfl rfl k36 (by simp [c36]) ?_
  obtain ⟨g1, g2⟩ := make_sl (R := RAck H.length (H ++ [zeros l.length [.int .i64 0, .int .i64 0, .int .i64 0, .int .i64 0, .int .i64 0, .int .i64 0, .int .i64 0, .int .i64 0, .int .i64 0, .int .i64 0, .int .i64 0, .slice none 0 0, .slice none 0 0, .int .i64 0, .string ⟨#[]⟩]])) (esz := 15) (H := H) (z := (⟨0, 0, 0, 0, 0, (0, 0, 0), (0, 0, 0), [], [], 0, ⟨#[]⟩⟩ : Acp)) (zero := [.int .i64 0, .int .i64 0, .int .i64 0, .int .i64 0, .int .i64 0, .int .i64 0, .int .i64 0, .int .i64 0, .int .i64 0, .int .i64 0, .int .i64 0, .slice none 0 0, .slice none 0 0, .int .i64 0, .string ⟨#[]⟩]) (n := l.length) (bytes := 160) rfl
    ⟨_, _, rfl, .inl ⟨rfl, rfl⟩, .inl ⟨rfl, rfl⟩, by simp [idsOf], by simp [idsOf]⟩ (by unfold room; omega) (by unfold room; omega)
  generalize hsv : (Value.slice (some ⟨H.length, 0, some 15⟩) l.length (l.length * 15)) = sv at g1 g2
  have hown : OwnS H.length sv := .inr ⟨_, _, _, _, hsv.symm, Nat.le_refl _⟩
  have hids : idsOf sv = [H.length] := by rw [← hsv]; rfl
  have hwid : m.wr H.length = true := hw _ (Nat.le_refl _)
  simp only [go_sem, ↓reduceIte, Nat.reduceEqDiff, reduceCtorEq, Nat.reduceAdd, Nat.reduceLeDiff, Nat.reduceMul, c36, hl.len]
  rw [g2 _ _ _ rfl rfl rfl]
  simp only [go_sem, ↓reduceIte, Nat.reduceEqDiff, reduceCtorEq, Nat.reduceAdd, Nat.reduceLeDiff, Nat.reduceMul]
  refine go_for l.length (fun i s => H <+: s.H ∧ s.ρ 0 = .val v ∧ s.ρ 3 = .val sv ∧ s.ρ 4 = .val (.int .i64 i) ∧ H.length < s.H.length ∧ Sl (RAck H.length s.H) 15 s.H sv (l.take i ++ List.replicate (l.length - i) (⟨0, 0, 0, 0, 0, (0, 0, 0), (0, 0, 0), [], [], 0, ⟨#[]⟩⟩ : Acp)))
    (fun s => H <+: s.H ∧ s.ρ 3 = .val sv ∧ Sl (RAck H.length s.H) 15 s.H sv l) ?_ ?_ ?_
  · exact ⟨List.prefix_append _ _, by simp [upd, ini], by simp [upd], by simp [upd], by simp, by simpa using g1⟩
  · rintro i s hi ⟨hH, h0, h3, h4, hlt, hs⟩
    have hl' := (hl.pre hH).frame (R' := RAc s.H) (fun _ _ _ h => h.pre hH) fun _ _ _ _ _ _ => rfl
    have hw' := hw.pre hH
    simp only [go_sem, ↓reduceIte, Nat.reduceEqDiff, reduceCtorEq, Nat.reduceAdd, Nat.reduceLeDiff, Nat.reduceMul, h0, h3, h4, hl'.len]
    refine brT.intro (fun h1 => ?_) (fun h1 => ?_) <;> simp only [go_sem, ↓reduceIte, Nat.reduceEqDiff, reduceCtorEq, Nat.reduceAdd, Nat.reduceLeDiff, Nat.reduceMul, h0, h3, h4]
    · have h2 : i < l.length := by simpa using h1
      obtain ⟨id, p, o, ho, ⟨pp, pv, hr, hs1, hs2⟩, hp, hia⟩ := hl'.elem (List.getElem?_eq_getElem h2)
      simp only [go_sem, ↓reduceIte, Nat.reduceEqDiff, reduceCtorEq, Nat.reduceAdd, Nat.reduceLeDiff, Nat.reduceMul, h0, h3, h4, hia, ho, hr, hp]
      refine callT_to (fun m' h => f72 hs1 hs2 (hb _ (List.getElem_mem h2)).1 (hb _ (List.getElem_mem h2)).2 h) rfl hw' fun r1 H1 ⟨u', z', e1, p1, s1, s2, o1, o2⟩ => ?_
      subst e1
      have hs1 : Sl (RAck H.length H1) 15 H1 sv (l.take i ++ List.replicate (l.length - i) (⟨0, 0, 0, 0, 0, (0, 0, 0), (0, 0, 0), [], [], 0, ⟨#[]⟩⟩ : Acp)) := (hs.pre p1).frame (fun _ _ _ h => h.pre p1) fun _ _ _ _ _ _ => rfl
      obtain ⟨id2, p2, o3, ho2, hp2, hid, hia2, hst⟩ := hs1.store (i := i) (by simp; omega)
      have hid' : id2 = H.length := by rw [hids] at hid; simpa using hid.symm
      subst hid'
      simp only [go_sem, ↓reduceIte, Nat.reduceEqDiff, reduceCtorEq, Nat.reduceAdd, Nat.reduceLeDiff, Nat.reduceMul, h0, h3, h4, hia2, ho2, hp2, hwid, hnr, wrap64 ((i : Int) + 1) (by omega) (by omega), Bool.false_eq_true, false_implies]
      refine ⟨h2, pre_set (hH.trans p1) (by omega), by simp, ?_, ?_⟩
      · have := p1.length_le
        try simp only [List.length_set]
        omega
      have := hst l[i] [.int .i64 l[i].sv, .int .i64 l[i].cl, .int .i64 l[i].ky, .int .i64 l[i].op, .int .i64 l[i].nw, .int .i64 l[i].au.1, .int .i64 l[i].au.2.1, .int .i64 l[i].au.2.2, .int .i64 l[i].rs.1, .int .i64 l[i].rs.2.1, .int .i64 l[i].rs.2.2, u', z', .int .i64 l[i].lk, .string l[i].tk] rfl ⟨u', z', rfl, s1, s2, fun j hj => by have := own_ge o1 j hj; omega, fun j hj => by have := own_ge o2 j hj; omega⟩
      rw [List.take_succ_eq_append_getElem h2, List.append_assoc, List.singleton_append]
      rw [List.set_append_right _ _ (by simp; omega), show i - (l.take i).length = 0 by simp; omega, show l.length - i = (l.length - (i + 1)) + 1 by omega, List.replicate_succ, List.set_cons_zero] at this
      exact this.frame (fun _ _ _ h => h.set) fun _ _ _ _ _ _ => rfl
    · have h2 : ¬ i < l.length := by simpa using h1
      rw [List.take_of_length_le (by omega), show l.length - i = 0 by omega] at hs
      simp only [List.replicate_zero, List.append_nil] at hs
      exact ⟨hH, hs⟩
  · rintro s ⟨hH, h3, hs⟩
    simp only [go_sem, ↓reduceIte, Nat.reduceEqDiff, reduceCtorEq, Nat.reduceAdd, Nat.reduceLeDiff, Nat.reduceMul, h3]
    exact ⟨hH, hs.frame (fun _ _ _ h => h.r) (fun _ _ _ _ _ _ => rfl), hown⟩
end Go.Proofs.YtglboiahgpfjdaaGreat.Ev

/- A world's copy; what is the same is found so. -/
namespace Go.Proofs.YtglboiahgpfjdaaGreat.Ev
set_option linter.all false
open Go
set_option maxRecDepth 4000

theorem di (n : Int) : decide (n = n) = true := by simp
theorem ds (n : ByteArray) : decide (n = n) = true := by simp
theorem db (n : Bool) : decide (n = n) = true := by simp
theorem f126 {H : Hp} {x : Pr} : Scal EE 126 [.agg #[.int .i64 x.1, .int .i64 x.2], .agg #[.int .i64 x.1, .int .i64 x.2]] H (.bool true) := by
  refine scal_ok rfl rfl k126 (by simp [c126]) rfl fun m hw => ?_
  simp only [go_sem, ↓reduceIte, Nat.reduceEqDiff, reduceCtorEq, Nat.reduceAdd, Nat.reduceLeDiff, Nat.reduceMul, c126, di, Bool.not_true]
theorem f127 {H : Hp} {x : Re} : Scal EE 127 [.agg #[.int .i64 x.1, .int .i64 x.2.1, .int .i64 x.2.2], .agg #[.int .i64 x.1, .int .i64 x.2.1, .int .i64 x.2.2]] H (.bool true) := by
  refine scal_ok rfl rfl k127 (by simp [c127]) rfl fun m hw => ?_
  simp only [go_sem, ↓reduceIte, Nat.reduceEqDiff, reduceCtorEq, Nat.reduceAdd, Nat.reduceLeDiff, Nat.reduceMul, c127, di, Bool.not_true]
theorem f129 {H : Hp} {x : Re} : Scal EE 129 [.agg #[.int .i64 x.1, .int .i64 x.2.1, .int .i64 x.2.2], .agg #[.int .i64 x.1, .int .i64 x.2.1, .int .i64 x.2.2]] H (.bool true) := by
  refine scal_ok rfl rfl k129 (by simp [c129]) rfl fun m hw => ?_
  simp only [go_sem, ↓reduceIte, Nat.reduceEqDiff, reduceCtorEq, Nat.reduceAdd, Nat.reduceLeDiff, Nat.reduceMul, c129, di, Bool.not_true]
theorem f85 {H : Hp} {x : Wt} : Scal EE 85 [.agg #[.bool x.1, .int .i64 x.2.1, .int .i64 x.2.2.1, .int .i64 x.2.2.2], .agg #[.bool x.1, .int .i64 x.2.1, .int .i64 x.2.2.1, .int .i64 x.2.2.2]] H (.bool true) := by
  refine scal_ok rfl rfl k85 (by simp [c85]) rfl fun m hw => ?_
  simp only [go_sem, ↓reduceIte, Nat.reduceEqDiff, reduceCtorEq, Nat.reduceAdd, Nat.reduceLeDiff, Nat.reduceMul, c85, di, beqK, db, Bool.not_true]
theorem f86 {H : Hp} {x : Cr} : Scal EE 86 [.agg #[.int .i64 x.1, .int .i64 x.2.1, .int .i64 x.2.2.1, .int .i64 x.2.2.2.1, .int .i64 x.2.2.2.2.1.1, .int .i64 x.2.2.2.2.1.2.1, .int .i64 x.2.2.2.2.1.2.2, .string x.2.2.2.2.2], .agg #[.int .i64 x.1, .int .i64 x.2.1, .int .i64 x.2.2.1, .int .i64 x.2.2.2.1, .int .i64 x.2.2.2.2.1.1, .int .i64 x.2.2.2.2.1.2.1, .int .i64 x.2.2.2.2.1.2.2, .string x.2.2.2.2.2]] H (.bool true) := by
  refine scal_ok rfl rfl k86 (by simp [c86]) rfl fun m hw => ?_
  have a127 := fun {m draw s' d' ts Q} => callT_at (m := m) (draw := draw) (s := s') (d := d') (ts := ts) (Q := Q) (f127 (H := H) (x := x.2.2.2.2.1))
  simp only [go_sem, ↓reduceIte, Nat.reduceEqDiff, reduceCtorEq, Nat.reduceAdd, Nat.reduceLeDiff, Nat.reduceMul, c86, di, ds, a127, hw, Bool.not_true]
theorem f88 {H : Hp} {x : Evt} : Scal EE 88 [.agg #[.int .i64 x.kd, .int .i64 x.rm, .int .i64 x.bq, .int .i64 x.cl, .int .i64 x.sv, .int .i64 x.ky, .int .i64 x.pa, .int .i64 x.ev, .int .i64 x.rs.1, .int .i64 x.rs.2.1, .int .i64 x.rs.2.2], .agg #[.int .i64 x.kd, .int .i64 x.rm, .int .i64 x.bq, .int .i64 x.cl, .int .i64 x.sv, .int .i64 x.ky, .int .i64 x.pa, .int .i64 x.ev, .int .i64 x.rs.1, .int .i64 x.rs.2.1, .int .i64 x.rs.2.2]] H (.bool true) := by
  refine scal_ok rfl rfl k88 (by simp [c88]) rfl fun m hw => ?_
  have a127 := fun {m draw s' d' ts Q} => callT_at (m := m) (draw := draw) (s := s') (d := d') (ts := ts) (Q := Q) (f127 (H := H) (x := x.rs))
  simp only [go_sem, ↓reduceIte, Nat.reduceEqDiff, reduceCtorEq, Nat.reduceAdd, Nat.reduceLeDiff, Nat.reduceMul, c88, di, a127, hw, Bool.not_true]
theorem f47 {H : Hp} {v u : Value} {l : List Int} (hl : Sl (En eI) 1 H v l) (hk : Sl (En eI) 1 H u l) : Scal EE 47 [v, u] H (.bool true) := by
  refine scal_ok rfl rfl k47 (by simp [c47]) rfl fun m hw => ?_
  have hroom := hl.room
  simp only [go_sem, ↓reduceIte, Nat.reduceEqDiff, reduceCtorEq, Nat.reduceAdd, Nat.reduceLeDiff, Nat.reduceMul, c47, hl.len, hk.len, di, Bool.not_true]
  refine go_for l.length (fun i s => s.H = H ∧ s.ρ 0 = .val v ∧ s.ρ 1 = .val u ∧ s.ρ 5 = .val (.int .i64 i)) (fun s => s.H = H) (by simp [upd, ini]) ?_ ?_
  · rintro i s hi ⟨hH, h0, h1, h5⟩
    simp only [go_sem, ↓reduceIte, Nat.reduceEqDiff, reduceCtorEq, Nat.reduceAdd, Nat.reduceLeDiff, Nat.reduceMul, h0, h1, h5, hl.len]
    cases c1 : decide ((i : Int) < (l.length : Int)) <;> simp only [go_sem, ↓reduceIte, Nat.reduceEqDiff, reduceCtorEq, Nat.reduceAdd, Nat.reduceLeDiff, Nat.reduceMul, h0, h1, h5, c1]
    · exact hH
    have hil : i < l.length := by have := of_decide_eq_true c1; omega
    have w1 := wrap64 ((i : Int) + 1) (by omega) (by omega)
    obtain ⟨id, p, o, ho, hr, hia⟩ := hl.int (List.getElem?_eq_getElem hil)
    obtain ⟨id2, p2, o2, ho2, hr2, hia2⟩ := hk.int (List.getElem?_eq_getElem hil)
    refine go_draw ?_
    simp only [go_sem, ↓reduceIte, Nat.reduceEqDiff, reduceCtorEq, Nat.reduceAdd, Nat.reduceLeDiff, Nat.reduceMul, h0, h1, h5, hia, hH, ho, hr, hia2, ho2, hr2, hw, hw, di, ds, Bool.not_true]
    refine ⟨by rfl, ?_⟩
    simp only [go_sem, ↓reduceIte, Nat.reduceEqDiff, reduceCtorEq, Nat.reduceAdd, Nat.reduceLeDiff, Nat.reduceMul, h0, h1, h5, w1, hH]
    exact ⟨hil, by simp⟩
  · rintro s hH
    simp only [go_sem, ↓reduceIte, Nat.reduceEqDiff, reduceCtorEq, Nat.reduceAdd, Nat.reduceLeDiff, Nat.reduceMul, hH]
theorem f40 {H : Hp} {v u : Value} {l : List ByteArray} (hl : Sl (En eS) 1 H v l) (hk : Sl (En eS) 1 H u l) : Scal EE 40 [v, u] H (.bool true) := by
  refine scal_ok rfl rfl k40 (by simp [c40]) rfl fun m hw => ?_
  have hroom := hl.room
  simp only [go_sem, ↓reduceIte, Nat.reduceEqDiff, reduceCtorEq, Nat.reduceAdd, Nat.reduceLeDiff, Nat.reduceMul, c40, hl.len, hk.len, di, Bool.not_true]
  refine go_for l.length (fun i s => s.H = H ∧ s.ρ 0 = .val v ∧ s.ρ 1 = .val u ∧ s.ρ 5 = .val (.int .i64 i)) (fun s => s.H = H) (by simp [upd, ini]) ?_ ?_
  · rintro i s hi ⟨hH, h0, h1, h5⟩
    simp only [go_sem, ↓reduceIte, Nat.reduceEqDiff, reduceCtorEq, Nat.reduceAdd, Nat.reduceLeDiff, Nat.reduceMul, h0, h1, h5, hl.len]
    cases c1 : decide ((i : Int) < (l.length : Int)) <;> simp only [go_sem, ↓reduceIte, Nat.reduceEqDiff, reduceCtorEq, Nat.reduceAdd, Nat.reduceLeDiff, Nat.reduceMul, h0, h1, h5, c1]
    · exact hH
    have hil : i < l.length := by have := of_decide_eq_true c1; omega
    have w1 := wrap64 ((i : Int) + 1) (by omega) (by omega)
    obtain ⟨id, p, o, ho, hr, hia⟩ := hl.str (List.getElem?_eq_getElem hil)
    obtain ⟨id2, p2, o2, ho2, hr2, hia2⟩ := hk.str (List.getElem?_eq_getElem hil)
    refine go_draw ?_
    simp only [go_sem, ↓reduceIte, Nat.reduceEqDiff, reduceCtorEq, Nat.reduceAdd, Nat.reduceLeDiff, Nat.reduceMul, h0, h1, h5, hia, hH, ho, hr, hia2, ho2, hr2, hw, hw, di, ds, Bool.not_true]
    refine ⟨by rfl, ?_⟩
    simp only [go_sem, ↓reduceIte, Nat.reduceEqDiff, reduceCtorEq, Nat.reduceAdd, Nat.reduceLeDiff, Nat.reduceMul, h0, h1, h5, w1, hH]
    exact ⟨hil, by simp⟩
  · rintro s hH
    simp only [go_sem, ↓reduceIte, Nat.reduceEqDiff, reduceCtorEq, Nat.reduceAdd, Nat.reduceLeDiff, Nat.reduceMul, hH]
theorem f84 {H : Hp} {v u : Value} {l : List Pr} (hl : Sl (En ePr) 2 H v l) (hk : Sl (En ePr) 2 H u l) : Scal EE 84 [v, u] H (.bool true) := by
  refine scal_ok rfl rfl k84 (by simp [c84]) rfl fun m hw => ?_
  have hroom := hl.room
  simp only [go_sem, ↓reduceIte, Nat.reduceEqDiff, reduceCtorEq, Nat.reduceAdd, Nat.reduceLeDiff, Nat.reduceMul, c84, hl.len, hk.len, di, Bool.not_true]
  refine go_for l.length (fun i s => s.H = H ∧ s.ρ 0 = .val v ∧ s.ρ 1 = .val u ∧ s.ρ 5 = .val (.int .i64 i)) (fun s => s.H = H) (by simp [upd, ini]) ?_ ?_
  · rintro i s hi ⟨hH, h0, h1, h5⟩
    simp only [go_sem, ↓reduceIte, Nat.reduceEqDiff, reduceCtorEq, Nat.reduceAdd, Nat.reduceLeDiff, Nat.reduceMul, h0, h1, h5, hl.len]
    cases c1 : decide ((i : Int) < (l.length : Int)) <;> simp only [go_sem, ↓reduceIte, Nat.reduceEqDiff, reduceCtorEq, Nat.reduceAdd, Nat.reduceLeDiff, Nat.reduceMul, h0, h1, h5, c1]
    · exact hH
    have hil : i < l.length := by have := of_decide_eq_true c1; omega
    have w1 := wrap64 ((i : Int) + 1) (by omega) (by omega)
    obtain ⟨id, p, o, ho, hr, hp, hia⟩ := hl.elem (List.getElem?_eq_getElem hil)
    have hr : (o.drop p).take 2 = ePr l[i] := hr
    unfold ePr at hr
    obtain ⟨id2, p2, o2, ho2, hr2, hp2, hia2⟩ := hk.elem (List.getElem?_eq_getElem hil)
    have hr2 : (o2.drop p2).take 2 = ePr l[i] := hr2
    unfold ePr at hr2
    have ak := fun {m draw s' d' ts Q} => callT_at (m := m) (draw := draw) (s := s') (d := d') (ts := ts) (Q := Q) (f126 (H := H) (x := l[i]))
    refine go_draw ?_
    simp only [go_sem, ↓reduceIte, Nat.reduceEqDiff, reduceCtorEq, Nat.reduceAdd, Nat.reduceLeDiff, Nat.reduceMul, h0, h1, h5, hia, hH, ho, hr, hia2, ho2, hr2, hw, hp, hp2, ak, di, ds, Bool.not_true]
    refine ⟨by rfl, ?_⟩
    simp only [go_sem, ↓reduceIte, Nat.reduceEqDiff, reduceCtorEq, Nat.reduceAdd, Nat.reduceLeDiff, Nat.reduceMul, h0, h1, h5, w1, hH]
    exact ⟨hil, by simp⟩
  · rintro s hH
    simp only [go_sem, ↓reduceIte, Nat.reduceEqDiff, reduceCtorEq, Nat.reduceAdd, Nat.reduceLeDiff, Nat.reduceMul, hH]
theorem f42 {H : Hp} {v u : Value} {l : List Wt} (hl : Sl (En eWt) 4 H v l) (hk : Sl (En eWt) 4 H u l) : Scal EE 42 [v, u] H (.bool true) := by
  refine scal_ok rfl rfl k42 (by simp [c42]) rfl fun m hw => ?_
  have hroom := hl.room
  simp only [go_sem, ↓reduceIte, Nat.reduceEqDiff, reduceCtorEq, Nat.reduceAdd, Nat.reduceLeDiff, Nat.reduceMul, c42, hl.len, hk.len, di, Bool.not_true]
  refine go_for l.length (fun i s => s.H = H ∧ s.ρ 0 = .val v ∧ s.ρ 1 = .val u ∧ s.ρ 5 = .val (.int .i64 i)) (fun s => s.H = H) (by simp [upd, ini]) ?_ ?_
  · rintro i s hi ⟨hH, h0, h1, h5⟩
    simp only [go_sem, ↓reduceIte, Nat.reduceEqDiff, reduceCtorEq, Nat.reduceAdd, Nat.reduceLeDiff, Nat.reduceMul, h0, h1, h5, hl.len]
    cases c1 : decide ((i : Int) < (l.length : Int)) <;> simp only [go_sem, ↓reduceIte, Nat.reduceEqDiff, reduceCtorEq, Nat.reduceAdd, Nat.reduceLeDiff, Nat.reduceMul, h0, h1, h5, c1]
    · exact hH
    have hil : i < l.length := by have := of_decide_eq_true c1; omega
    have w1 := wrap64 ((i : Int) + 1) (by omega) (by omega)
    obtain ⟨id, p, o, ho, hr, hp, hia⟩ := hl.elem (List.getElem?_eq_getElem hil)
    have hr : (o.drop p).take 4 = eWt l[i] := hr
    unfold eWt at hr
    obtain ⟨id2, p2, o2, ho2, hr2, hp2, hia2⟩ := hk.elem (List.getElem?_eq_getElem hil)
    have hr2 : (o2.drop p2).take 4 = eWt l[i] := hr2
    unfold eWt at hr2
    have ak := fun {m draw s' d' ts Q} => callT_at (m := m) (draw := draw) (s := s') (d := d') (ts := ts) (Q := Q) (f85 (H := H) (x := l[i]))
    refine go_draw ?_
    simp only [go_sem, ↓reduceIte, Nat.reduceEqDiff, reduceCtorEq, Nat.reduceAdd, Nat.reduceLeDiff, Nat.reduceMul, h0, h1, h5, hia, hH, ho, hr, hia2, ho2, hr2, hw, hp, hp2, ak, di, ds, Bool.not_true]
    refine ⟨by rfl, ?_⟩
    simp only [go_sem, ↓reduceIte, Nat.reduceEqDiff, reduceCtorEq, Nat.reduceAdd, Nat.reduceLeDiff, Nat.reduceMul, h0, h1, h5, w1, hH]
    exact ⟨hil, by simp⟩
  · rintro s hH
    simp only [go_sem, ↓reduceIte, Nat.reduceEqDiff, reduceCtorEq, Nat.reduceAdd, Nat.reduceLeDiff, Nat.reduceMul, hH]
theorem f43 {H : Hp} {v u : Value} {l : List Cr} (hl : Sl (En eCr) 8 H v l) (hk : Sl (En eCr) 8 H u l) : Scal EE 43 [v, u] H (.bool true) := by
  refine scal_ok rfl rfl k43 (by simp [c43]) rfl fun m hw => ?_
  have hroom := hl.room
  simp only [go_sem, ↓reduceIte, Nat.reduceEqDiff, reduceCtorEq, Nat.reduceAdd, Nat.reduceLeDiff, Nat.reduceMul, c43, hl.len, hk.len, di, Bool.not_true]
  refine go_for l.length (fun i s => s.H = H ∧ s.ρ 0 = .val v ∧ s.ρ 1 = .val u ∧ s.ρ 5 = .val (.int .i64 i)) (fun s => s.H = H) (by simp [upd, ini]) ?_ ?_
  · rintro i s hi ⟨hH, h0, h1, h5⟩
    simp only [go_sem, ↓reduceIte, Nat.reduceEqDiff, reduceCtorEq, Nat.reduceAdd, Nat.reduceLeDiff, Nat.reduceMul, h0, h1, h5, hl.len]
    cases c1 : decide ((i : Int) < (l.length : Int)) <;> simp only [go_sem, ↓reduceIte, Nat.reduceEqDiff, reduceCtorEq, Nat.reduceAdd, Nat.reduceLeDiff, Nat.reduceMul, h0, h1, h5, c1]
    · exact hH
    have hil : i < l.length := by have := of_decide_eq_true c1; omega
    have w1 := wrap64 ((i : Int) + 1) (by omega) (by omega)
    obtain ⟨id, p, o, ho, hr, hp, hia⟩ := hl.elem (List.getElem?_eq_getElem hil)
    have hr : (o.drop p).take 8 = eCr l[i] := hr
    unfold eCr at hr
    obtain ⟨id2, p2, o2, ho2, hr2, hp2, hia2⟩ := hk.elem (List.getElem?_eq_getElem hil)
    have hr2 : (o2.drop p2).take 8 = eCr l[i] := hr2
    unfold eCr at hr2
    have ak := fun {m draw s' d' ts Q} => callT_at (m := m) (draw := draw) (s := s') (d := d') (ts := ts) (Q := Q) (f86 (H := H) (x := l[i]))
    refine go_draw ?_
    simp only [go_sem, ↓reduceIte, Nat.reduceEqDiff, reduceCtorEq, Nat.reduceAdd, Nat.reduceLeDiff, Nat.reduceMul, h0, h1, h5, hia, hH, ho, hr, hia2, ho2, hr2, hw, hp, hp2, ak, di, ds, Bool.not_true]
    refine ⟨by rfl, ?_⟩
    simp only [go_sem, ↓reduceIte, Nat.reduceEqDiff, reduceCtorEq, Nat.reduceAdd, Nat.reduceLeDiff, Nat.reduceMul, h0, h1, h5, w1, hH]
    exact ⟨hil, by simp⟩
  · rintro s hH
    simp only [go_sem, ↓reduceIte, Nat.reduceEqDiff, reduceCtorEq, Nat.reduceAdd, Nat.reduceLeDiff, Nat.reduceMul, hH]
theorem f45 {H : Hp} {v u : Value} {l : List Evt} (hl : Sl (En eEv) 11 H v l) (hk : Sl (En eEv) 11 H u l) : Scal EE 45 [v, u] H (.bool true) := by
  refine scal_ok rfl rfl k45 (by simp [c45]) rfl fun m hw => ?_
  have hroom := hl.room
  simp only [go_sem, ↓reduceIte, Nat.reduceEqDiff, reduceCtorEq, Nat.reduceAdd, Nat.reduceLeDiff, Nat.reduceMul, c45, hl.len, hk.len, di, Bool.not_true]
  refine go_for l.length (fun i s => s.H = H ∧ s.ρ 0 = .val v ∧ s.ρ 1 = .val u ∧ s.ρ 5 = .val (.int .i64 i)) (fun s => s.H = H) (by simp [upd, ini]) ?_ ?_
  · rintro i s hi ⟨hH, h0, h1, h5⟩
    simp only [go_sem, ↓reduceIte, Nat.reduceEqDiff, reduceCtorEq, Nat.reduceAdd, Nat.reduceLeDiff, Nat.reduceMul, h0, h1, h5, hl.len]
    cases c1 : decide ((i : Int) < (l.length : Int)) <;> simp only [go_sem, ↓reduceIte, Nat.reduceEqDiff, reduceCtorEq, Nat.reduceAdd, Nat.reduceLeDiff, Nat.reduceMul, h0, h1, h5, c1]
    · exact hH
    have hil : i < l.length := by have := of_decide_eq_true c1; omega
    have w1 := wrap64 ((i : Int) + 1) (by omega) (by omega)
    obtain ⟨id, p, o, ho, hr, hp, hia⟩ := hl.elem (List.getElem?_eq_getElem hil)
    have hr : (o.drop p).take 11 = eEv l[i] := hr
    unfold eEv at hr
    obtain ⟨id2, p2, o2, ho2, hr2, hp2, hia2⟩ := hk.elem (List.getElem?_eq_getElem hil)
    have hr2 : (o2.drop p2).take 11 = eEv l[i] := hr2
    unfold eEv at hr2
    have ak := fun {m draw s' d' ts Q} => callT_at (m := m) (draw := draw) (s := s') (d := d') (ts := ts) (Q := Q) (f88 (H := H) (x := l[i]))
    refine go_draw ?_
    simp only [go_sem, ↓reduceIte, Nat.reduceEqDiff, reduceCtorEq, Nat.reduceAdd, Nat.reduceLeDiff, Nat.reduceMul, h0, h1, h5, hia, hH, ho, hr, hia2, ho2, hr2, hw, hp, hp2, ak, di, ds, Bool.not_true]
    refine ⟨by rfl, ?_⟩
    simp only [go_sem, ↓reduceIte, Nat.reduceEqDiff, reduceCtorEq, Nat.reduceAdd, Nat.reduceLeDiff, Nat.reduceMul, h0, h1, h5, w1, hH]
    exact ⟨hil, by simp⟩
  · rintro s hH
    simp only [go_sem, ↓reduceIte, Nat.reduceEqDiff, reduceCtorEq, Nat.reduceAdd, Nat.reduceLeDiff, Nat.reduceMul, hH]
theorem f128 {H : Hp} {v u : Value} {l : List Re} (hl : Sl (En eRe) 3 H v l) (hk : Sl (En eRe) 3 H u l) : Scal EE 128 [v, u] H (.bool true) := by
  refine scal_ok rfl rfl k128 (by simp [c128]) rfl fun m hw => ?_
  have hroom := hl.room
  simp only [go_sem, ↓reduceIte, Nat.reduceEqDiff, reduceCtorEq, Nat.reduceAdd, Nat.reduceLeDiff, Nat.reduceMul, c128, hl.len, hk.len, di, Bool.not_true]
  refine go_for l.length (fun i s => s.H = H ∧ s.ρ 0 = .val v ∧ s.ρ 1 = .val u ∧ s.ρ 5 = .val (.int .i64 i)) (fun s => s.H = H) (by simp [upd, ini]) ?_ ?_
  · rintro i s hi ⟨hH, h0, h1, h5⟩
    simp only [go_sem, ↓reduceIte, Nat.reduceEqDiff, reduceCtorEq, Nat.reduceAdd, Nat.reduceLeDiff, Nat.reduceMul, h0, h1, h5, hl.len]
    cases c1 : decide ((i : Int) < (l.length : Int)) <;> simp only [go_sem, ↓reduceIte, Nat.reduceEqDiff, reduceCtorEq, Nat.reduceAdd, Nat.reduceLeDiff, Nat.reduceMul, h0, h1, h5, c1]
    · exact hH
    have hil : i < l.length := by have := of_decide_eq_true c1; omega
    have w1 := wrap64 ((i : Int) + 1) (by omega) (by omega)
    obtain ⟨id, p, o, ho, hr, hp, hia⟩ := hl.elem (List.getElem?_eq_getElem hil)
    have hr : (o.drop p).take 3 = eRe l[i] := hr
    unfold eRe at hr
    obtain ⟨id2, p2, o2, ho2, hr2, hp2, hia2⟩ := hk.elem (List.getElem?_eq_getElem hil)
    have hr2 : (o2.drop p2).take 3 = eRe l[i] := hr2
    unfold eRe at hr2
    have ak := fun {m draw s' d' ts Q} => callT_at (m := m) (draw := draw) (s := s') (d := d') (ts := ts) (Q := Q) (f129 (H := H) (x := l[i]))
    refine go_draw ?_
    simp only [go_sem, ↓reduceIte, Nat.reduceEqDiff, reduceCtorEq, Nat.reduceAdd, Nat.reduceLeDiff, Nat.reduceMul, h0, h1, h5, hia, hH, ho, hr, hia2, ho2, hr2, hw, hp, hp2, ak, di, ds, Bool.not_true]
    refine ⟨by rfl, ?_⟩
    simp only [go_sem, ↓reduceIte, Nat.reduceEqDiff, reduceCtorEq, Nat.reduceAdd, Nat.reduceLeDiff, Nat.reduceMul, h0, h1, h5, w1, hH]
    exact ⟨hil, by simp⟩
  · rintro s hH
    simp only [go_sem, ↓reduceIte, Nat.reduceEqDiff, reduceCtorEq, Nat.reduceAdd, Nat.reduceLeDiff, Nat.reduceMul, hH]
theorem f87 {H : Hp} {c : Ch} {v u : Value} (hv : SlAu H v c.2) (hu : SlAu H u c.2) : Scal EE 87 [.agg #[.int .i64 c.1, v], .agg #[.int .i64 c.1, u]] H (.bool true) := by
  refine scal_ok rfl rfl k87 (by simp [c87]) rfl fun m hw => ?_
  have ak := fun {m draw s' d' ts Q} => callT_at (m := m) (draw := draw) (s := s') (d := d') (ts := ts) (Q := Q) (f128 hv hu)
  simp only [go_sem, ↓reduceIte, Nat.reduceEqDiff, reduceCtorEq, Nat.reduceAdd, Nat.reduceLeDiff, Nat.reduceMul, c87, di, hv.vc, hu.vc, ak, hw, Bool.not_true]
theorem f89 {H : Hp} {a : Acp} {p v p' v' : Value} (hp : SlI H p a.pa) (hv : SlI H v a.vi) (hp' : SlI H p' a.pa) (hv' : SlI H v' a.vi) : Scal EE 89 [.agg #[.int .i64 a.sv, .int .i64 a.cl, .int .i64 a.ky, .int .i64 a.op, .int .i64 a.nw, .int .i64 a.au.1, .int .i64 a.au.2.1, .int .i64 a.au.2.2, .int .i64 a.rs.1, .int .i64 a.rs.2.1, .int .i64 a.rs.2.2, p, v, .int .i64 a.lk, .string a.tk], .agg #[.int .i64 a.sv, .int .i64 a.cl, .int .i64 a.ky, .int .i64 a.op, .int .i64 a.nw, .int .i64 a.au.1, .int .i64 a.au.2.1, .int .i64 a.au.2.2, .int .i64 a.rs.1, .int .i64 a.rs.2.1, .int .i64 a.rs.2.2, p', v', .int .i64 a.lk, .string a.tk]] H (.bool true) := by
  refine scal_ok rfl rfl k89 (by simp [c89]) rfl fun m hw => ?_
  have a127 := fun {m draw s' d' ts Q} => callT_at (m := m) (draw := draw) (s := s') (d := d') (ts := ts) (Q := Q) (f127 (H := H) (x := a.rs))
  have a129 := fun {m draw s' d' ts Q} => callT_at (m := m) (draw := draw) (s := s') (d := d') (ts := ts) (Q := Q) (f129 (H := H) (x := a.au))
  have ap := fun {m draw s' d' ts Q} => callT_at (m := m) (draw := draw) (s := s') (d := d') (ts := ts) (Q := Q) (f47 hp hp')
  have av := fun {m draw s' d' ts Q} => callT_at (m := m) (draw := draw) (s := s') (d := d') (ts := ts) (Q := Q) (f47 hv hv')
  simp only [go_sem, ↓reduceIte, Nat.reduceEqDiff, reduceCtorEq, Nat.reduceAdd, Nat.reduceLeDiff, Nat.reduceMul, c89, di, ds, hp.vc, hv.vc, hp'.vc, hv'.vc, a127, a129, ap, av, hw, Bool.not_true]
theorem f44 {H : Hp} {v u : Value} {l : List Ch} (hl : Sl (RCh H) 2 H v l) (hk : Sl (RCh H) 2 H u l) : Scal EE 44 [v, u] H (.bool true) := by
  refine scal_ok rfl rfl k44 (by simp [c44]) rfl fun m hw => ?_
  have hroom := hl.room
  simp only [go_sem, ↓reduceIte, Nat.reduceEqDiff, reduceCtorEq, Nat.reduceAdd, Nat.reduceLeDiff, Nat.reduceMul, c44, hl.len, hk.len, di, Bool.not_true]
  refine go_for l.length (fun i s => s.H = H ∧ s.ρ 0 = .val v ∧ s.ρ 1 = .val u ∧ s.ρ 5 = .val (.int .i64 i)) (fun s => s.H = H) (by simp [upd, ini]) ?_ ?_
  · rintro i s hi ⟨hH, h0, h1, h5⟩
    simp only [go_sem, ↓reduceIte, Nat.reduceEqDiff, reduceCtorEq, Nat.reduceAdd, Nat.reduceLeDiff, Nat.reduceMul, h0, h1, h5, hl.len]
    cases c1 : decide ((i : Int) < (l.length : Int)) <;> simp only [go_sem, ↓reduceIte, Nat.reduceEqDiff, reduceCtorEq, Nat.reduceAdd, Nat.reduceLeDiff, Nat.reduceMul, h0, h1, h5, c1]
    · exact hH
    have hil : i < l.length := by have := of_decide_eq_true c1; omega
    have w1 := wrap64 ((i : Int) + 1) (by omega) (by omega)
    obtain ⟨id, p, o, ho, ⟨w1', hr, hs1⟩, hp, hia⟩ := hl.elem (List.getElem?_eq_getElem hil)
    obtain ⟨id2, p2, o2, ho2, ⟨w2', hr2, hs2⟩, hp2, hia2⟩ := hk.elem (List.getElem?_eq_getElem hil)
    have ak := fun {m draw s' d' ts Q} => callT_at (m := m) (draw := draw) (s := s') (d := d') (ts := ts) (Q := Q) (f87 hs1 hs2)
    refine go_draw ?_
    simp only [go_sem, ↓reduceIte, Nat.reduceEqDiff, reduceCtorEq, Nat.reduceAdd, Nat.reduceLeDiff, Nat.reduceMul, h0, h1, h5, hia, hH, ho, hr, hia2, ho2, hr2, hw, hp, hp2, ak, di, ds, Bool.not_true]
    refine ⟨by rfl, ?_⟩
    simp only [go_sem, ↓reduceIte, Nat.reduceEqDiff, reduceCtorEq, Nat.reduceAdd, Nat.reduceLeDiff, Nat.reduceMul, h0, h1, h5, w1, hH]
    exact ⟨hil, by simp⟩
  · rintro s hH
    simp only [go_sem, ↓reduceIte, Nat.reduceEqDiff, reduceCtorEq, Nat.reduceAdd, Nat.reduceLeDiff, Nat.reduceMul, hH]
theorem f46 {H : Hp} {v u : Value} {l : List Acp} (hl : Sl (RAc H) 15 H v l) (hk : Sl (RAc H) 15 H u l) : Scal EE 46 [v, u] H (.bool true) := by
  refine scal_ok rfl rfl k46 (by simp [c46]) rfl fun m hw => ?_
  have hroom := hl.room
  simp only [go_sem, ↓reduceIte, Nat.reduceEqDiff, reduceCtorEq, Nat.reduceAdd, Nat.reduceLeDiff, Nat.reduceMul, c46, hl.len, hk.len, di, Bool.not_true]
  refine go_for l.length (fun i s => s.H = H ∧ s.ρ 0 = .val v ∧ s.ρ 1 = .val u ∧ s.ρ 5 = .val (.int .i64 i)) (fun s => s.H = H) (by simp [upd, ini]) ?_ ?_
  · rintro i s hi ⟨hH, h0, h1, h5⟩
    simp only [go_sem, ↓reduceIte, Nat.reduceEqDiff, reduceCtorEq, Nat.reduceAdd, Nat.reduceLeDiff, Nat.reduceMul, h0, h1, h5, hl.len]
    cases c1 : decide ((i : Int) < (l.length : Int)) <;> simp only [go_sem, ↓reduceIte, Nat.reduceEqDiff, reduceCtorEq, Nat.reduceAdd, Nat.reduceLeDiff, Nat.reduceMul, h0, h1, h5, c1]
    · exact hH
    have hil : i < l.length := by have := of_decide_eq_true c1; omega
    have w1 := wrap64 ((i : Int) + 1) (by omega) (by omega)
    obtain ⟨id, p, o, ho, ⟨pa, va, hr, hs1, hs2⟩, hp, hia⟩ := hl.elem (List.getElem?_eq_getElem hil)
    obtain ⟨id2, p2, o2, ho2, ⟨pb, vb, hr2, hs3, hs4⟩, hp2, hia2⟩ := hk.elem (List.getElem?_eq_getElem hil)
    have ak := fun {m draw s' d' ts Q} => callT_at (m := m) (draw := draw) (s := s') (d := d') (ts := ts) (Q := Q) (f89 hs1 hs2 hs3 hs4)
    refine go_draw ?_
    simp only [go_sem, ↓reduceIte, Nat.reduceEqDiff, reduceCtorEq, Nat.reduceAdd, Nat.reduceLeDiff, Nat.reduceMul, h0, h1, h5, hia, hH, ho, hr, hia2, ho2, hr2, hw, hp, hp2, ak, di, ds, Bool.not_true]
    refine ⟨by rfl, ?_⟩
    simp only [go_sem, ↓reduceIte, Nat.reduceEqDiff, reduceCtorEq, Nat.reduceAdd, Nat.reduceLeDiff, Nat.reduceMul, h0, h1, h5, w1, hH]
    exact ⟨hil, by simp⟩
  · rintro s hH
    simp only [go_sem, ↓reduceIte, Nat.reduceEqDiff, reduceCtorEq, Nat.reduceAdd, Nat.reduceLeDiff, Nat.reduceMul, hH]
theorem f41 {H : Hp} {u w u' w' : Value} {t : List ByteArray} {k : List Int} (ht : SlS H u t) (hk : SlI H w k) (ht' : SlS H u' t) (hk' : SlI H w' k) : Scal EE 41 [.agg #[u, w], .agg #[u', w']] H (.bool true) := by
  refine scal_ok rfl rfl k41 (by simp [c41]) rfl fun m hw => ?_
  have a1 := fun {m draw s' d' ts Q} => callT_at (m := m) (draw := draw) (s := s') (d := d') (ts := ts) (Q := Q) (f40 ht ht')
  have a2 := fun {m draw s' d' ts Q} => callT_at (m := m) (draw := draw) (s := s') (d := d') (ts := ts) (Q := Q) (f47 hk hk')
  simp only [go_sem, ↓reduceIte, Nat.reduceEqDiff, reduceCtorEq, Nat.reduceAdd, Nat.reduceLeDiff, Nat.reduceMul, c41, a1, a2, hw, Bool.not_true]
theorem f39 {H : Hp} {c : Cfg} {u s l p u' s' l' p' : Value} (h : RCf H c u s l p) (h' : RCf H c u' s' l' p') : Scal EE 39 [.agg #[u, s, l, p, .int .i64 c.skew], .agg #[u', s', l', p', .int .i64 c.skew]] H (.bool true) := by
  refine scal_ok rfl rfl k39 (by simp [c39]) rfl fun m hw => ?_
  have a1 := fun {m draw s' d' ts Q} => callT_at (m := m) (draw := draw) (s := s') (d := d') (ts := ts) (Q := Q) (f47 h.ur h'.ur)
  have a2 := fun {m draw s' d' ts Q} => callT_at (m := m) (draw := draw) (s := s') (d := d') (ts := ts) (Q := Q) (f47 h.sr h'.sr)
  have a3 := fun {m draw s' d' ts Q} => callT_at (m := m) (draw := draw) (s := s') (d := d') (ts := ts) (Q := Q) (f84 h.lk h'.lk)
  have a4 := fun {m draw s' d' ts Q} => callT_at (m := m) (draw := draw) (s := s') (d := d') (ts := ts) (Q := Q) (f84 h.px h'.px)
  simp only [go_sem, ↓reduceIte, Nat.reduceEqDiff, reduceCtorEq, Nat.reduceAdd, Nat.reduceLeDiff, Nat.reduceMul, c39, a1, a2, a3, a4, hw, di, Bool.not_true]
theorem f12 {H : Hp} {w : Wd} {u s l p n t k a c h e x d u' s' l' p' n' t' k' a' c' h' e' x' d' : Value} (q : RWd H w u s l p n t k a c h e x d) (q' : RWd H w u' s' l' p' n' t' k' a' c' h' e' x' d') : Scal EE 12 [.agg #[u, s, l, p, .int .i64 w.cf.skew, .int .i64 w.now, .int .i64 w.fresh, n, t, k, a, c, h, e, x, d], .agg #[u', s', l', p', .int .i64 w.cf.skew, .int .i64 w.now, .int .i64 w.fresh, n', t', k', a', c', h', e', x', d']] H (.bool true) := by
  refine scal_ok rfl rfl k12 (by simp [c12]) rfl fun m hw => ?_
  have a0 := fun {m draw s' d' ts Q} => callT_at (m := m) (draw := draw) (s := s') (d := d') (ts := ts) (Q := Q) (f39 q.cf q'.cf)
  have a1 := fun {m draw s' d' ts Q} => callT_at (m := m) (draw := draw) (s := s') (d := d') (ts := ts) (Q := Q) (f40 q.net q'.net)
  have a2 := fun {m draw s' d' ts Q} => callT_at (m := m) (draw := draw) (s := s') (d := d') (ts := ts) (Q := Q) (f41 q.tms q.kys q'.tms q'.kys)
  have a3 := fun {m draw s' d' ts Q} => callT_at (m := m) (draw := draw) (s := s') (d := d') (ts := ts) (Q := Q) (f42 q.wts q'.wts)
  have a4 := fun {m draw s' d' ts Q} => callT_at (m := m) (draw := draw) (s := s') (d := d') (ts := ts) (Q := Q) (f43 q.crs q'.crs)
  have a5 := fun {m draw s' d' ts Q} => callT_at (m := m) (draw := draw) (s := s') (d := d') (ts := ts) (Q := Q) (f44 q.chs q'.chs)
  have a6 := fun {m draw s' d' ts Q} => callT_at (m := m) (draw := draw) (s := s') (d := d') (ts := ts) (Q := Q) (f45 q.log q'.log)
  have a7 := fun {m draw s' d' ts Q} => callT_at (m := m) (draw := draw) (s := s') (d := d') (ts := ts) (Q := Q) (f46 q.acs q'.acs)
  have a8 := fun {m draw s' d' ts Q} => callT_at (m := m) (draw := draw) (s := s') (d := d') (ts := ts) (Q := Q) (f47 q.lks q'.lks)
  simp only [go_sem, ↓reduceIte, Nat.reduceEqDiff, reduceCtorEq, Nat.reduceAdd, Nat.reduceLeDiff, Nat.reduceMul, c12, a0, a1, a2, a3, a4, a5, a6, a7, a8, hw, di, Bool.not_true]
theorem RCf.vcs {H : Hp} {c : Cfg} {u s l p : Value} (h : RCf H c u s l p) : vc u = some [u] ∧ vc s = some [s] ∧ vc l = some [l] ∧ vc p = some [p] := ⟨h.ur.vc, h.sr.vc, h.lk.vc, h.px.vc⟩
theorem RWd.vcs {H : Hp} {w : Wd} {u s l p n t k a c h e x d : Value} (q : RWd H w u s l p n t k a c h e x d) : vc u = some [u] ∧ vc s = some [s] ∧ vc l = some [l] ∧ vc p = some [p] ∧ vc n = some [n] ∧ vc t = some [t] ∧ vc k = some [k] ∧ vc a = some [a] ∧ vc c = some [c] ∧ vc h = some [h] ∧ vc e = some [e] ∧ vc x = some [x] ∧ vc d = some [d] := ⟨q.cf.ur.vc, q.cf.sr.vc, q.cf.lk.vc, q.cf.px.vc, q.net.vc, q.tms.vc, q.kys.vc, q.wts.vc, q.crs.vc, q.chs.vc, q.log.vc, q.acs.vc, q.lks.vc⟩
theorem f29 {m : Md} {H : Hp} {c : Cfg} {u s l p : Value} (h : RCf H c u s l p) (hs : CfS c) (hw : Wr m H) : Fun EE m 29 [.agg #[u, s, l, p, .int .i64 c.skew]] H fun r H' => ∃ u' s' l' p', r = .agg #[u', s', l', p', .int .i64 c.skew] ∧ H <+: H' ∧ RCf H' c u' s' l' p' := by
  refine fun_f rfl rfl k29 (by simp [c29]) ?_
  simp only [go_sem, ↓reduceIte, Nat.reduceEqDiff, reduceCtorEq, Nat.reduceAdd, Nat.reduceLeDiff, Nat.reduceMul, c29, h.ur.vc, h.sr.vc, h.lk.vc, h.px.vc]
  refine callT_to (fun m' q => f37 h.ur hs.1 q) rfl hw fun r1 H1 ⟨p1, s1, o1⟩ => ?_
  have w1 := hw.pre p1
  simp only [go_sem, ↓reduceIte, Nat.reduceEqDiff, reduceCtorEq, Nat.reduceAdd, Nat.reduceLeDiff, Nat.reduceMul, s1.vc, h.ur.vc, h.sr.vc, h.lk.vc, h.px.vc]
  refine callT_to (fun m' q => f37 (h.sr.pre p1) hs.2.1 q) rfl w1 fun r2 H2 ⟨p2, s2, o2⟩ => ?_
  have w2 := w1.pre p2
  simp only [go_sem, ↓reduceIte, Nat.reduceEqDiff, reduceCtorEq, Nat.reduceAdd, Nat.reduceLeDiff, Nat.reduceMul, s1.vc, s2.vc, h.ur.vc, h.sr.vc, h.lk.vc, h.px.vc]
  refine callT_to (fun m' q => f67 ((h.lk.pre p1).pre p2) hs.2.2.1 q) rfl w2 fun r3 H3 ⟨p3, s3, o3⟩ => ?_
  have w3 := w2.pre p3
  simp only [go_sem, ↓reduceIte, Nat.reduceEqDiff, reduceCtorEq, Nat.reduceAdd, Nat.reduceLeDiff, Nat.reduceMul, s1.vc, s2.vc, s3.vc, h.ur.vc, h.sr.vc, h.lk.vc, h.px.vc]
  refine callT_to (fun m' q => f67 (((h.px.pre p1).pre p2).pre p3) hs.2.2.2 q) rfl w3 fun r4 H4 ⟨p4, s4, o4⟩ => ?_
  simp only [go_sem, ↓reduceIte, Nat.reduceEqDiff, reduceCtorEq, Nat.reduceAdd, Nat.reduceLeDiff, Nat.reduceMul, s1.vc, s2.vc, s3.vc, s4.vc, h.ur.vc, h.sr.vc, h.lk.vc, h.px.vc]
  exact ⟨r1, r2, r3, r4, rfl, p1.trans (p2.trans (p3.trans p4)), ⟨s1.pre (p2.trans (p3.trans p4)), s2.pre (p3.trans p4), s3.pre p4, s4⟩⟩
theorem f31 {m : Md} {H : Hp} {u w : Value} {t : List ByteArray} {k : List Int} (ht : SlS H u t) (hk : SlI H w k) (h1 : t.length ≤ 1048576) (h2 : k.length ≤ 1048576) (hw : Wr m H) : Fun EE m 31 [.agg #[u, w]] H fun r H' => ∃ u' w', r = .agg #[u', w'] ∧ H <+: H' ∧ SlS H' u' t ∧ SlI H' w' k := by
  refine fun_f rfl rfl k31 (by simp [c31]) ?_
  simp only [go_sem, ↓reduceIte, Nat.reduceEqDiff, reduceCtorEq, Nat.reduceAdd, Nat.reduceLeDiff, Nat.reduceMul, c31, ht.vc, hk.vc]
  refine callT_to (fun m' q => f30 ht h1 q) rfl hw fun r1 H1 ⟨p1, s1, o1⟩ => ?_
  simp only [go_sem, ↓reduceIte, Nat.reduceEqDiff, reduceCtorEq, Nat.reduceAdd, Nat.reduceLeDiff, Nat.reduceMul, s1.vc, ht.vc, hk.vc]
  refine callT_to (fun m' q => f37 (hk.pre p1) h2 q) rfl (hw.pre p1) fun r2 H2 ⟨p2, s2, o2⟩ => ?_
  simp only [go_sem, ↓reduceIte, Nat.reduceEqDiff, reduceCtorEq, Nat.reduceAdd, Nat.reduceLeDiff, Nat.reduceMul, s1.vc, s2.vc, ht.vc, hk.vc]
  exact ⟨r1, r2, rfl, p1.trans p2, s1.pre p2, s2⟩
theorem f9 {m : Md} {H : Hp} {w : Wd} {u s l p n t k a c h e x d : Value} (q : RWd H w u s l p n t k a c h e x d) (z : WdS w) (hw : Wr m H) (hnr : m.nr = false) :
    Fun EE m 9 [.agg #[u, s, l, p, .int .i64 w.cf.skew, .int .i64 w.now, .int .i64 w.fresh, n, t, k, a, c, h, e, x, d]] H fun r H' => ∃ u' s' l' p' n' t' k' a' c' h' e' x' d', r = .agg #[u', s', l', p', .int .i64 w.cf.skew, .int .i64 w.now, .int .i64 w.fresh, n', t', k', a', c', h', e', x', d'] ∧ H <+: H' ∧ RWd H' w u' s' l' p' n' t' k' a' c' h' e' x' d' := by
  refine fun_f rfl rfl k9 (by simp [c9]) ?_
  have V := q.vcs
  simp only [go_sem, ↓reduceIte, Nat.reduceEqDiff, reduceCtorEq, Nat.reduceAdd, Nat.reduceLeDiff, Nat.reduceMul, c9, V]
  refine callT_to (fun m' g => f29 q.cf z.cf g) rfl hw fun r1 H1 ⟨u', s', l', p', e1, p1, s1⟩ => ?_
  subst e1
  have w1 := hw.pre p1
  have q1 := q.pre p1
  have v1 := s1.vcs
  simp only [go_sem, ↓reduceIte, Nat.reduceEqDiff, reduceCtorEq, Nat.reduceAdd, Nat.reduceLeDiff, Nat.reduceMul, V, v1]
  refine callT_to (fun m' g => f30 q1.net z.net g) rfl w1 fun r2 H2 ⟨p2, s2, o2⟩ => ?_
  have w2 := w1.pre p2
  have q2 := q1.pre p2
  simp only [go_sem, ↓reduceIte, Nat.reduceEqDiff, reduceCtorEq, Nat.reduceAdd, Nat.reduceLeDiff, Nat.reduceMul, V, v1, s2.vc]
  refine callT_to (fun m' g => f31 q2.tms q2.kys z.tms z.kys g) rfl w2 fun r3 H3 ⟨t', k', e3, p3, s3, s3'⟩ => ?_
  subst e3
  have w3 := w2.pre p3
  have q3 := q2.pre p3
  simp only [go_sem, ↓reduceIte, Nat.reduceEqDiff, reduceCtorEq, Nat.reduceAdd, Nat.reduceLeDiff, Nat.reduceMul, V, v1, s2.vc, s3.vc, s3'.vc]
  refine callT_to (fun m' g => f32 q3.wts z.wts g) rfl w3 fun r4 H4 ⟨p4, s4, o4⟩ => ?_
  have w4 := w3.pre p4
  have q4 := q3.pre p4
  simp only [go_sem, ↓reduceIte, Nat.reduceEqDiff, reduceCtorEq, Nat.reduceAdd, Nat.reduceLeDiff, Nat.reduceMul, V, v1, s2.vc, s3.vc, s3'.vc, s4.vc]
  refine callT_to (fun m' g => f33 q4.crs z.crs g) rfl w4 fun r5 H5 ⟨p5, s5, o5⟩ => ?_
  have w5 := w4.pre p5
  have q5 := q4.pre p5
  simp only [go_sem, ↓reduceIte, Nat.reduceEqDiff, reduceCtorEq, Nat.reduceAdd, Nat.reduceLeDiff, Nat.reduceMul, V, v1, s2.vc, s3.vc, s3'.vc, s4.vc, s5.vc]
  refine callT_nr (fun m' g hn => f34 q5.chs z.chs z.ch g (hn.trans hnr)) rfl w5 fun r6 H6 ⟨p6, s6, o6⟩ => ?_
  have w6 := w5.pre p6
  have q6 := q5.pre p6
  simp only [go_sem, ↓reduceIte, Nat.reduceEqDiff, reduceCtorEq, Nat.reduceAdd, Nat.reduceLeDiff, Nat.reduceMul, V, v1, s2.vc, s3.vc, s3'.vc, s4.vc, s5.vc, s6.vc]
  refine callT_to (fun m' g => f35 q6.log z.log g) rfl w6 fun r7 H7 ⟨p7, s7, o7⟩ => ?_
  have w7 := w6.pre p7
  have q7 := q6.pre p7
  simp only [go_sem, ↓reduceIte, Nat.reduceEqDiff, reduceCtorEq, Nat.reduceAdd, Nat.reduceLeDiff, Nat.reduceMul, V, v1, s2.vc, s3.vc, s3'.vc, s4.vc, s5.vc, s6.vc, s7.vc]
  refine callT_nr (fun m' g hn => f36 q7.acs z.acs z.ac g (hn.trans hnr)) rfl w7 fun r8 H8 ⟨p8, s8, o8⟩ => ?_
  have w8 := w7.pre p8
  have q8 := q7.pre p8
  simp only [go_sem, ↓reduceIte, Nat.reduceEqDiff, reduceCtorEq, Nat.reduceAdd, Nat.reduceLeDiff, Nat.reduceMul, V, v1, s2.vc, s3.vc, s3'.vc, s4.vc, s5.vc, s6.vc, s7.vc, s8.vc]
  refine callT_to (fun m' g => f37 q8.lks z.lks g) rfl w8 fun r9 H9 ⟨p9, s9, o9⟩ => ?_
  have w9 := w8.pre p9
  have q9 := q8.pre p9
  simp only [go_sem, ↓reduceIte, Nat.reduceEqDiff, reduceCtorEq, Nat.reduceAdd, Nat.reduceLeDiff, Nat.reduceMul, V, v1, s2.vc, s3.vc, s3'.vc, s4.vc, s5.vc, s6.vc, s7.vc, s8.vc, s9.vc]
  have t9 := p9
  have t8 := p8.trans t9
  have t7 := p7.trans t8
  have t6 := p6.trans t7
  have t5 := p5.trans t6
  have t4 := p4.trans t5
  have t3 := p3.trans t4
  have t2 := p2.trans t3
  exact ⟨_, _, _, _, _, _, _, _, _, _, _, _, _, rfl, p1.trans t2, ⟨s1.pre t2, s2.pre t3, s3.pre t4, s3'.pre t4, s4.pre t5, s5.pre t6, (s6.pre t7).frame (fun _ _ _ h => h.pre t7) (fun _ _ _ _ _ _ => rfl), s7.pre t8, (s8.pre t9).frame (fun _ _ _ h => h.pre t9) (fun _ _ _ _ _ _ => rfl), s9⟩⟩
end Go.Proofs.YtglboiahgpfjdaaGreat.Ev

/- The types of the laws' parameters: worlds. -/
namespace Go.Proofs.YtglboiahgpfjdaaGreat.Ev
set_option linter.all false
open Go
set_option maxRecDepth 100000
theorem wf64 {a : Int} (hi : (Lit.int .i64 a).wf = true) : I64 a := by
  simp [Lit.wf, IntKind.min, IntKind.max, IntKind.signed, IntKind.bits] at hi
  unfold I64
  omega
theorem bI : Bld Tryz.prog 3 1 (fun _ (n : Int) vs => vs = [.int .i64 n]) (fun n => (Lit.int .i64 n).wf = true) := Bld.int Tryz.underlying3 (by kernel_rfl)
theorem bB : Bld Tryz.prog 4 1 (fun _ (b : Bool) vs => vs = [.bool b]) (fun _ => True) := Bld.bool Tryz.underlying4 (by kernel_rfl)
theorem bS : Bld Tryz.prog 9 1 (fun _ (b : ByteArray) vs => vs = [.string b]) (fun b => b.size ≤ maxLen) := Bld.string Tryz.underlying9 (by kernel_rfl)
theorem bStr : Bld Tryz.prog 9 1 (fun _ (b : ByteArray) vs => En eS b vs) (fun b => b.size ≤ maxLen) := bS.conv (fun b => b) (fun _ _ _ h => h) (fun _ h => h) (fun _ h => h)
theorem bIs : Bld Tryz.prog 22 1 (fun M (l : List Int) vs => ∃ v, vs = [v] ∧ SlI M v l) (fun _ => True) :=
  (Bld.slice (t := 22) Tryz.underlying22 (by kernel_rfl) (bI.conv (R' := fun _ (n : Int) vs => En eI n vs) (fun n => n) (fun _ _ _ h => h) (fun _ h => h) (fun _ h => h))).conv (fun l => l) (fun M z vs h => h) (fun hp ⟨v, e, h⟩ => ⟨v, e, h.pre hp⟩) (fun _ _ => trivial)
theorem bSs : Bld Tryz.prog 26 1 (fun M (l : List ByteArray) vs => ∃ v, vs = [v] ∧ SlS M v l) (fun l => ∀ z ∈ l, z.size ≤ maxLen) :=
  (Bld.slice (t := 26) Tryz.underlying26 (by kernel_rfl) bStr).conv (fun l => l) (fun M z vs h => h) (fun hp ⟨v, e, h⟩ => ⟨v, e, h.pre hp⟩) (fun _ h => h.2)
theorem bPr : Bld Tryz.prog 167 2 (fun _ (z : Pr) vs => En ePr z vs) (fun z => True) :=
  (Bld.struct (t := 167) Tryz.underlying167 (by kernel_rfl) (SeqB.cons (off := 0) (off' := 1) bI rfl (SeqB.one bI))).conv (fun h => h) (fun M z vs h => by
    obtain ⟨u0, v0, e0, a0, a1⟩ := h
    subst a0; subst a1; subst e0
    rfl) (fun _ h => h) (fun z h => trivial)
theorem bRs : Bld Tryz.prog 121 3 (fun _ (z : Re) vs => En eRe z vs) (fun z => True) :=
  (Bld.struct (t := 121) Tryz.underlying121 (by kernel_rfl) (SeqB.cons (off := 0) (off' := 1) bI rfl (SeqB.cons (off := 1) (off' := 2) bI rfl (SeqB.one bI)))).conv (fun h => h) (fun M z vs h => by
    obtain ⟨u0, v0, e0, a0, u1, v1, e1, a1, a2⟩ := h
    subst a0; subst a1; subst a2; subst e1; subst e0
    rfl) (fun _ h => h) (fun z h => trivial)
theorem bAu : Bld Tryz.prog 129 3 (fun _ (z : Re) vs => En eRe z vs) (fun z => True) :=
  (Bld.struct (t := 129) Tryz.underlying129 (by kernel_rfl) (SeqB.cons (off := 0) (off' := 1) bI rfl (SeqB.cons (off := 1) (off' := 2) bI rfl (SeqB.one bI)))).conv (fun h => h) (fun M z vs h => by
    obtain ⟨u0, v0, e0, a0, u1, v1, e1, a1, a2⟩ := h
    subst a0; subst a1; subst a2; subst e1; subst e0
    rfl) (fun _ h => h) (fun z h => trivial)
theorem bWt : Bld Tryz.prog 134 4 (fun _ (z : Wt) vs => En eWt z vs) (fun z => True) :=
  (Bld.struct (t := 134) Tryz.underlying134 (by kernel_rfl) (SeqB.cons (off := 0) (off' := 1) bB rfl (SeqB.cons (off := 1) (off' := 2) bI rfl (SeqB.cons (off := 2) (off' := 3) bI rfl (SeqB.one bI))))).conv (fun h => h) (fun M z vs h => by
    obtain ⟨u0, v0, e0, a0, u1, v1, e1, a1, u2, v2, e2, a2, a3⟩ := h
    subst a0; subst a1; subst a2; subst a3; subst e2; subst e1; subst e0
    rfl) (fun _ h => h) (fun z h => trivial)
theorem bCr : Bld Tryz.prog 123 8 (fun _ (z : Cr) vs => En eCr z vs) (fun z => z.2.2.2.2.2.size ≤ maxLen ∧ I64 z.2.2.1) :=
  (Bld.struct (t := 123) Tryz.underlying123 (by kernel_rfl) (SeqB.cons (off := 0) (off' := 1) bI rfl (SeqB.cons (off := 1) (off' := 2) bI rfl (SeqB.cons (off := 2) (off' := 3) bI rfl (SeqB.cons (off := 3) (off' := 4) bI rfl (SeqB.cons (off := 4) (off' := 7) bRs rfl (SeqB.one bS))))))).conv (fun h => h) (fun M z vs h => by
    obtain ⟨u0, v0, e0, a0, u1, v1, e1, a1, u2, v2, e2, a2, u3, v3, e3, a3, u4, v4, e4, a4, a5⟩ := h
    subst a0; subst a1; subst a2; subst a3; subst a4; subst a5; subst e4; subst e3; subst e2; subst e1; subst e0
    rfl) (fun _ h => h) (fun z h => ⟨h.2.2.2.2.2, wf64 h.2.2.1⟩)
theorem bEv : Bld Tryz.prog 139 11 (fun _ (z : Evt) vs => En eEv z vs) (fun z => True) :=
  (Bld.struct (t := 139) Tryz.underlying139 (by kernel_rfl) (SeqB.cons (off := 0) (off' := 1) bI rfl (SeqB.cons (off := 1) (off' := 2) bI rfl (SeqB.cons (off := 2) (off' := 3) bI rfl (SeqB.cons (off := 3) (off' := 4) bI rfl (SeqB.cons (off := 4) (off' := 5) bI rfl (SeqB.cons (off := 5) (off' := 6) bI rfl (SeqB.cons (off := 6) (off' := 7) bI rfl (SeqB.cons (off := 7) (off' := 8) bI rfl (SeqB.one bRs)))))))))).conv (fun h => (⟨h.1, h.2.1, h.2.2.1, h.2.2.2.1, h.2.2.2.2.1, h.2.2.2.2.2.1, h.2.2.2.2.2.2.1, h.2.2.2.2.2.2.2.1, h.2.2.2.2.2.2.2.2⟩ : Evt)) (fun M z vs h => by
    obtain ⟨u0, v0, e0, a0, u1, v1, e1, a1, u2, v2, e2, a2, u3, v3, e3, a3, u4, v4, e4, a4, u5, v5, e5, a5, u6, v6, e6, a6, u7, v7, e7, a7, a8⟩ := h
    subst a0; subst a1; subst a2; subst a3; subst a4; subst a5; subst a6; subst a7; subst a8; subst e7; subst e6; subst e5; subst e4; subst e3; subst e2; subst e1; subst e0
    rfl) (fun _ h => h) (fun z h => trivial)
theorem bPrs : Bld Tryz.prog 23 1 (fun M (l : List Pr) vs => ∃ v, vs = [v] ∧ Sl (En ePr) 2 M v l) (fun l => True) :=
  (Bld.slice (t := 23) Tryz.underlying23 (by kernel_rfl) bPr).conv (fun l => l) (fun M z vs h => h) (fun hp ⟨v, e, h⟩ => ⟨v, e, h.pre hp⟩) (fun _ h => trivial)
theorem bAus : Bld Tryz.prog 125 1 (fun M (l : List Re) vs => ∃ v, vs = [v] ∧ Sl (En eRe) 3 M v l) (fun l => True) :=
  (Bld.slice (t := 125) Tryz.underlying125 (by kernel_rfl) bAu).conv (fun l => l) (fun M z vs h => h) (fun hp ⟨v, e, h⟩ => ⟨v, e, h.pre hp⟩) (fun _ h => trivial)
theorem bWts : Bld Tryz.prog 29 1 (fun M (l : List Wt) vs => ∃ v, vs = [v] ∧ Sl (En eWt) 4 M v l) (fun l => True) :=
  (Bld.slice (t := 29) Tryz.underlying29 (by kernel_rfl) bWt).conv (fun l => l) (fun M z vs h => h) (fun hp ⟨v, e, h⟩ => ⟨v, e, h.pre hp⟩) (fun _ h => trivial)
theorem bCrs : Bld Tryz.prog 30 1 (fun M (l : List Cr) vs => ∃ v, vs = [v] ∧ Sl (En eCr) 8 M v l) (fun l => ∀ z ∈ l, z.2.2.2.2.2.size ≤ maxLen ∧ I64 z.2.2.1) :=
  (Bld.slice (t := 30) Tryz.underlying30 (by kernel_rfl) bCr).conv (fun l => l) (fun M z vs h => h) (fun hp ⟨v, e, h⟩ => ⟨v, e, h.pre hp⟩) (fun _ h => h.2)
theorem bEvs : Bld Tryz.prog 32 1 (fun M (l : List Evt) vs => ∃ v, vs = [v] ∧ Sl (En eEv) 11 M v l) (fun l => True) :=
  (Bld.slice (t := 32) Tryz.underlying32 (by kernel_rfl) bEv).conv (fun l => l) (fun M z vs h => h) (fun hp ⟨v, e, h⟩ => ⟨v, e, h.pre hp⟩) (fun _ h => trivial)
theorem bCh : Bld Tryz.prog 127 2 (fun M (z : Ch) vs => RCh M z vs) (fun z => True) :=
  (Bld.struct (t := 127) Tryz.underlying127 (by kernel_rfl) (SeqB.cons (off := 0) (off' := 1) bI rfl (SeqB.one bAus))).conv (fun h => h) (fun M z vs h => by
    obtain ⟨u0, v0, e0, a0, ⟨w1, a1, s1⟩⟩ := h
    subst a0; subst a1; subst e0
    exact ⟨w1, rfl, s1⟩) (fun hp h => h.pre hp) (fun z h => trivial)
theorem bChs : Bld Tryz.prog 31 1 (fun M (l : List Ch) vs => ∃ v, vs = [v] ∧ Sl (RCh M) 2 M v l) (fun l => True) :=
  (Bld.slice (t := 31) Tryz.underlying31 (by kernel_rfl) bCh).conv (fun l => l) (fun M z vs h => h) (fun hp ⟨v, e, h⟩ => ⟨v, e, (h.pre hp).frame (fun _ _ _ h => h.pre hp) (fun _ _ _ _ _ _ => rfl)⟩) (fun _ h => trivial)
theorem bAc : Bld Tryz.prog 131 15 (fun M (z : Acp) vs => RAc M z vs) (fun z => z.tk.size ≤ maxLen) :=
  (Bld.struct (t := 131) Tryz.underlying131 (by kernel_rfl) (SeqB.cons (off := 0) (off' := 1) bI rfl (SeqB.cons (off := 1) (off' := 2) bI rfl (SeqB.cons (off := 2) (off' := 3) bI rfl (SeqB.cons (off := 3) (off' := 4) bI rfl (SeqB.cons (off := 4) (off' := 5) bI rfl (SeqB.cons (off := 5) (off' := 8) bAu rfl (SeqB.cons (off := 8) (off' := 11) bRs rfl (SeqB.cons (off := 11) (off' := 12) bIs rfl (SeqB.cons (off := 12) (off' := 13) bIs rfl (SeqB.cons (off := 13) (off' := 14) bI rfl (SeqB.one bS)))))))))))).conv (fun h => (⟨h.1, h.2.1, h.2.2.1, h.2.2.2.1, h.2.2.2.2.1, h.2.2.2.2.2.1, h.2.2.2.2.2.2.1, h.2.2.2.2.2.2.2.1, h.2.2.2.2.2.2.2.2.1, h.2.2.2.2.2.2.2.2.2.1, h.2.2.2.2.2.2.2.2.2.2⟩ : Acp)) (fun M z vs h => by
    obtain ⟨u0, v0, e0, a0, u1, v1, e1, a1, u2, v2, e2, a2, u3, v3, e3, a3, u4, v4, e4, a4, u5, v5, e5, a5, u6, v6, e6, a6, u7, v7, e7, ⟨w7, a7, s7⟩, u8, v8, e8, ⟨w8, a8, s8⟩, u9, v9, e9, a9, a10⟩ := h
    subst a0; subst a1; subst a2; subst a3; subst a4; subst a5; subst a6; subst a7; subst a8; subst a9; subst a10; subst e9; subst e8; subst e7; subst e6; subst e5; subst e4; subst e3; subst e2; subst e1; subst e0
    exact ⟨w7, w8, rfl, s7, s8⟩) (fun hp h => h.pre hp) (fun z h => h.2.2.2.2.2.2.2.2.2.2)
theorem bAcs : Bld Tryz.prog 33 1 (fun M (l : List Acp) vs => ∃ v, vs = [v] ∧ Sl (RAc M) 15 M v l) (fun l => ∀ z ∈ l, z.tk.size ≤ maxLen) :=
  (Bld.slice (t := 33) Tryz.underlying33 (by kernel_rfl) bAc).conv (fun l => l) (fun M z vs h => h) (fun hp ⟨v, e, h⟩ => ⟨v, e, (h.pre hp).frame (fun _ _ _ h => h.pre hp) (fun _ _ _ _ _ _ => rfl)⟩) (fun _ h => h.2)
theorem bCf : Bld Tryz.prog 25 5 (fun M (z : Cfg) vs => ∃ u s l p, vs = [u, s, l, p, .int .i64 z.skew] ∧ RCf M z u s l p) (fun z => True) :=
  (Bld.struct (t := 25) Tryz.underlying25 (by kernel_rfl) (SeqB.cons (off := 0) (off' := 1) bIs rfl (SeqB.cons (off := 1) (off' := 2) bIs rfl (SeqB.cons (off := 2) (off' := 3) bPrs rfl (SeqB.cons (off := 3) (off' := 4) bPrs rfl (SeqB.one bI)))))).conv (fun h => (⟨h.1, h.2.1, h.2.2.1, h.2.2.2.1, h.2.2.2.2⟩ : Cfg)) (fun M z vs h => by
    obtain ⟨u0, v0, e0, ⟨w0, a0, s0⟩, u1, v1, e1, ⟨w1, a1, s1⟩, u2, v2, e2, ⟨w2, a2, s2⟩, u3, v3, e3, ⟨w3, a3, s3⟩, a4⟩ := h
    subst a0; subst a1; subst a2; subst a3; subst a4; subst e3; subst e2; subst e1; subst e0
    exact ⟨w0, w1, w2, w3, rfl, ⟨s0, s1, s2, s3⟩⟩) (fun hp h => by obtain ⟨u, s, l, p, e, q⟩ := h; exact ⟨u, s, l, p, e, q.pre hp⟩) (fun z h => trivial)
theorem bKn : Bld Tryz.prog 28 2 (fun M (z : List ByteArray × List Int) vs => ∃ t k, vs = [t, k] ∧ SlS M t z.1 ∧ SlI M k z.2) (fun z => ∀ y ∈ z.1, y.size ≤ maxLen) :=
  (Bld.struct (t := 28) Tryz.underlying28 (by kernel_rfl) (SeqB.cons (off := 0) (off' := 1) bSs rfl (SeqB.one bIs))).conv (fun h => h) (fun M z vs h => by
    obtain ⟨u0, v0, e0, ⟨w0, a0, s0⟩, ⟨w1, a1, s1⟩⟩ := h
    subst a0; subst a1; subst e0
    exact ⟨w0, w1, rfl, s0, s1⟩) (fun hp h => by obtain ⟨t, k, e, a, b⟩ := h; exact ⟨t, k, e, a.pre hp, b.pre hp⟩) (fun z h => h.1)
theorem bWd : Bld Tryz.prog 35 16 (fun M (z : Wd) vs => ∃ u s l p n t k a c h e x d, vs = [u, s, l, p, .int .i64 z.cf.skew, .int .i64 z.now, .int .i64 z.fresh, n, t, k, a, c, h, e, x, d] ∧ RWd M z u s l p n t k a c h e x d) (fun z => WdY z) :=
  (Bld.struct (t := 35) Tryz.underlying35 (by kernel_rfl) (SeqB.cons (off := 0) (off' := 5) bCf rfl (SeqB.cons (off := 5) (off' := 6) bI rfl (SeqB.cons (off := 6) (off' := 7) bI rfl (SeqB.cons (off := 7) (off' := 8) bSs rfl (SeqB.cons (off := 8) (off' := 10) bKn rfl (SeqB.cons (off := 10) (off' := 11) bWts rfl (SeqB.cons (off := 11) (off' := 12) bCrs rfl (SeqB.cons (off := 12) (off' := 13) bChs rfl (SeqB.cons (off := 13) (off' := 14) bEvs rfl (SeqB.cons (off := 14) (off' := 15) bAcs rfl (SeqB.one bIs)))))))))))).conv (fun h => (⟨h.1, h.2.1, h.2.2.1, h.2.2.2.1, h.2.2.2.2.1.1, h.2.2.2.2.1.2, h.2.2.2.2.2.1, h.2.2.2.2.2.2.1, h.2.2.2.2.2.2.2.1, h.2.2.2.2.2.2.2.2.1, h.2.2.2.2.2.2.2.2.2.1, h.2.2.2.2.2.2.2.2.2.2⟩ : Wd)) (fun M z vs h => by
    obtain ⟨u0, v0, e0, ⟨cu, cs, cl, cp, a0, s0⟩, u1, v1, e1, a1, u2, v2, e2, a2, u3, v3, e3, ⟨w3, a3, s3⟩, u4, v4, e4, ⟨w4, w4', a4, s4, s4'⟩, u5, v5, e5, ⟨w5, a5, s5⟩, u6, v6, e6, ⟨w6, a6, s6⟩, u7, v7, e7, ⟨w7, a7, s7⟩, u8, v8, e8, ⟨w8, a8, s8⟩, u9, v9, e9, ⟨w9, a9, s9⟩, ⟨w10, a10, s10⟩⟩ := h
    subst a0; subst a1; subst a2; subst a3; subst a4; subst a5; subst a6; subst a7; subst a8; subst a9; subst a10; subst e9; subst e8; subst e7; subst e6; subst e5; subst e4; subst e3; subst e2; subst e1; subst e0
    exact ⟨cu, cs, cl, cp, w3, w4, w4', w5, w6, w7, w8, w9, w10, rfl, ⟨s0, s3, s4, s4', s5, s6, s7, s8, s9, s10⟩⟩) (fun hp h => by
    obtain ⟨u, s, l, p, n, t, k, a, c, h, e, x, d, e1, q⟩ := h
    exact ⟨u, s, l, p, n, t, k, a, c, h, e, x, d, e1, q.pre hp⟩) (fun z h => by
    have hm : maxLen = 9223372036854775807 := by decide
    obtain ⟨h0, h1, h2, h3, h4, h5, h6, h7, h8, h9, h10⟩ := h
    rw [hm] at *
    exact ⟨h3, h4, h6, h9⟩)
theorem aWd : ArgB Tryz.prog 35 (fun M (z : Wd) v => ∃ u s l p n t k a c h e x d, v = .agg #[u, s, l, p, .int .i64 z.cf.skew, .int .i64 z.now, .int .i64 z.fresh, n, t, k, a, c, h, e, x, d] ∧ RWd M z u s l p n t k a c h e x d) (fun z => WdY z) :=
  have g := ArgB.struct (t := 35) Tryz.underlying35 bWd
  ⟨fun hp h => by
    obtain ⟨u, s, l, p, n, t, k, a, c, h, e, x, d, e1, q⟩ := h
    exact ⟨u, s, l, p, n, t, k, a, c, h, e, x, d, e1, q.pre hp⟩, fun a b J M r => by
    obtain ⟨J', M', u', z, a1, a2, a3, ⟨vs, e1, u, s, l, p, n, t, k, a, c, h, e, x, d, e2, q⟩, a5⟩ := g.arg a b J M r
    have e3 : vs = #[u, s, l, p, .int .i64 z.cf.skew, .int .i64 z.now, .int .i64 z.fresh, n, t, k, a, c, h, e, x, d] := Array.toList_inj.1 e2
    subst e3
    exact ⟨J', M', u', z, a1, a2, a3, ⟨u, s, l, p, n, t, k, a, c, h, e, x, d, e1, q⟩, a5⟩⟩
end Go.Proofs.YtglboiahgpfjdaaGreat.Ev

/- What a world's events and requests count to; the law CountAll. -/
namespace Go.Proofs.YtglboiahgpfjdaaGreat.Ev
set_option linter.all false
open Go
set_option maxRecDepth 4000

theorem wd_len {w : Wd} (h : wdOk w = true) : w.log.length ≤ 40 ∧ w.acs.length ≤ 40 ∧ w.lks.length ≤ 40 ∧ w.acs.all (acOk w.lks.length) = true := by
  unfold wdOk at h
  simp only [Bool.and_eq_true, decide_eq_true_eq] at h
  exact ⟨h.2.2.2.2.2.2.2.2.1, h.2.2.2.2.2.2.2.2.2.1, h.2.2.2.2.2.2.2.2.2.2.1, h.2.2.2.2.2.2.2.2.2.2.2.2.2.2.2⟩
end Go.Proofs.YtglboiahgpfjdaaGreat.Ev
