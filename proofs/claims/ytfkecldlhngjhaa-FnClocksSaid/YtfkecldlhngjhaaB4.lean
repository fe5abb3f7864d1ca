/- Texts of this proof, laid one behind the other: what each shows stands at its head. -/
import Derived.Test.YtfkecldlhngjhaaB3
import Derived.Test.YtfkecldlhngjhaaRows
/- Clocks: those that agree, both ways. -/
namespace Go.Proofs.Ytfkecldlhngjhaa.Ev
set_option linter.all false
open Go
set_option maxRecDepth 4000

def inA (c : List Int) (skew low : Int) (k : Nat) : Bool := decide (c.getD k 0 ≥ low) && decide (c.getD k 0 - low ≤ skew)
/-- The clocks below k that lie in low .. low + skew. -/
def rowT (c : List Int) (skew low : Int) : Nat → List Int
  | 0 => []
  | k + 1 => if inA c skew low k = true then rowT c skew low k ++ [(k : Int)] else rowT c skew low k
def btr (r b : List Int) (x lo : Int) : Bool := decide ((r.length : Int) > (b.length : Int)) || (decide ((r.length : Int) = (b.length : Int)) && decide (x < lo))
def bestT (c : List Int) (skew : Int) : Nat → List Int × Int
  | 0 => ([], 0)
  | i + 1 => if btr (rowT c skew (c.getD i 0) c.length) (bestT c skew i).1 (c.getD i 0) (bestT c skew i).2 = true then (rowT c skew (c.getD i 0) c.length, c.getD i 0) else bestT c skew i
def agrR (c : List Int) (skew : Int) : List Int := if clOk c = true ∧ 0 ≤ skew then (bestT c skew c.length).1 else []
theorem agr_no {c : List Int} {skew : Int} (h : ¬ (clOk c = true ∧ 0 ≤ skew)) : agrR c skew = [] := by unfold agrR; rw [if_neg h]
theorem rowT_len (c : List Int) (skew low : Int) : ∀ k, (rowT c skew low k).length ≤ k
  | 0 => Nat.le_refl _
  | k + 1 => by
    have ih := rowT_len c skew low k
    unfold rowT
    split
    · simp; omega
    · omega
theorem rowT_t {c : List Int} {skew low : Int} {k : Nat} (h : inA c skew low k = true) : rowT c skew low (k + 1) = rowT c skew low k ++ [(k : Int)] := by rw [rowT, if_pos h]
theorem rowT_f {c : List Int} {skew low : Int} {k : Nat} (h : inA c skew low k = false) : rowT c skew low (k + 1) = rowT c skew low k := by rw [rowT, if_neg (by rw [h]; simp)]
theorem bestT_t {c : List Int} {skew : Int} {i : Nat} {x : Int} (hx : c.getD i 0 = x) (h : btr (rowT c skew x c.length) (bestT c skew i).1 x (bestT c skew i).2 = true) : bestT c skew (i + 1) = (rowT c skew x c.length, x) := by
  subst hx; rw [bestT, if_pos h]
theorem bestT_f {c : List Int} {skew : Int} {i : Nat} {x : Int} (hx : c.getD i 0 = x) (h : btr (rowT c skew x c.length) (bestT c skew i).1 x (bestT c skew i).2 = false) : bestT c skew (i + 1) = bestT c skew i := by
  subst hx; rw [bestT, if_neg (by rw [h]; simp)]
theorem getD_at {l : List Int} {i : Nat} (h : i < l.length) : l.getD i 0 = l[i] := by simp [h]

theorem f39 {m : Md} {H : Hp} {v : Value} {l : List Int} {skew : Int} (hl : SlI H v l) (hw : Wr m H) : Fun EE m 39 [v, .int .i64 skew] H fun r H' => FreshS eI 1 H r H' (agrR l skew) := by
  refine fun_f rfl rfl k39 (by simp [c39]) ?_
  have hroom := hl.room
  have p0 : H <+: H ++ [[]] := List.prefix_append _ _
  have s0 := own_newI (H := H)
  have o0 : OwnS H.length (.slice (some ⟨H.length, 0, some 1⟩) 0 (0 * 1)) := .inr ⟨_, _, _, _, rfl, Nat.le_refl _⟩
  generalize hwv : Value.slice (some ⟨H.length, 0, some 1⟩) 0 (0 * 1) = wv0 at s0 o0
  have l0 := hl.pre p0
  have w0 := hw.pre p0
  have a15 := fun {m draw s d ts Q} => callT_at (m := m) (draw := draw) (s := s) (d := d) (ts := ts) (Q := Q) (f15 l0)
  simp only [go_sem, ↓reduceIte, Nat.reduceEqDiff, reduceCtorEq, Nat.reduceAdd, Nat.reduceLeDiff, Nat.reduceMul, c39, fillL, hwv, a15, w0]
  cases q0 : clOk l <;> simp only [go_sem, ↓reduceIte, Nat.reduceEqDiff, reduceCtorEq, Nat.reduceAdd, Nat.reduceLeDiff, Nat.reduceMul, q0]
  · rw [agr_no (by rw [q0]; simp)]
    exact ⟨p0, s0, o0⟩
  cases q1 : decide (skew < 0) <;> simp only [go_sem, ↓reduceIte, Nat.reduceEqDiff, reduceCtorEq, Nat.reduceAdd, Nat.reduceLeDiff, Nat.reduceMul, q1]
  rotate_left
  · rw [agr_no (by have := of_decide_eq_true q1; omega)]
    exact ⟨p0, s0, o0⟩
  have h8 := cl_len q0
  have hsk : 0 ≤ skew := by have := of_decide_eq_false q1; omega
  refine go_for l.length (fun i s => H <+: s.H ∧ s.ρ 0 = .val v ∧ s.ρ 1 = .val (.int .i64 skew) ∧ s.ρ 6 = .val (.int .i64 (bestT l skew i).2) ∧ s.ρ 7 = .val (.int .i64 i) ∧ ∃ bv, s.ρ 5 = .val bv ∧ SlI s.H bv (bestT l skew i).1 ∧ OwnS H.length bv)
    (fun s => H <+: s.H ∧ ∃ bv, s.ρ 5 = .val bv ∧ SlI s.H bv (bestT l skew l.length).1 ∧ OwnS H.length bv) ?_ ?_ ?_
  · exact ⟨p0, by simp [upd, ini], by simp [upd, ini], by simp [upd, bestT], by simp [upd], wv0, by simp [upd], s0, o0⟩
  · rintro i s hi ⟨kH, k0, k1, k6, k7, bv, k5, bs, bo⟩
    have lk := hl.pre kH
    simp only [go_sem, ↓reduceIte, Nat.reduceEqDiff, reduceCtorEq, Nat.reduceAdd, Nat.reduceLeDiff, Nat.reduceMul, k0, k1, k5, k6, k7, lk.len]
    cases c1 : decide ((i : Int) < (l.length : Int)) <;> simp only [go_sem, ↓reduceIte, Nat.reduceEqDiff, reduceCtorEq, Nat.reduceAdd, Nat.reduceLeDiff, Nat.reduceMul, k0, k1, k5, k6, k7, c1]
    · have : i = l.length := by have := of_decide_eq_false c1; omega
      subst this
      exact ⟨kH, bv, rfl, bs, bo⟩
    have hil : i < l.length := by have := of_decide_eq_true c1; omega
    have pn : s.H <+: s.H ++ [[]] := List.prefix_append _ _
    have sn := own_newI (H := s.H)
    have on : OwnS s.H.length (.slice (some ⟨s.H.length, 0, some 1⟩) 0 (0 * 1)) := .inr ⟨_, _, _, _, rfl, Nat.le_refl _⟩
    generalize hnv : Value.slice (some ⟨s.H.length, 0, some 1⟩) 0 (0 * 1) = nv at sn on
    refine go_for l.length (fun j t => s.H <+: t.H ∧ t.ρ 0 = .val v ∧ t.ρ 1 = .val (.int .i64 skew) ∧ t.ρ 5 = .val bv ∧ t.ρ 6 = .val (.int .i64 (bestT l skew i).2) ∧ t.ρ 7 = .val (.int .i64 i) ∧ t.ρ 9 = .val (.int .i64 j) ∧ ∃ rv, t.ρ 8 = .val rv ∧ SlI t.H rv (rowT l skew l[i] j) ∧ OwnS s.H.length rv)
      (fun t => s.H <+: t.H ∧ t.ρ 0 = .val v ∧ t.ρ 1 = .val (.int .i64 skew) ∧ t.ρ 5 = .val bv ∧ t.ρ 6 = .val (.int .i64 (bestT l skew i).2) ∧ t.ρ 7 = .val (.int .i64 i) ∧ ∃ rv, t.ρ 8 = .val rv ∧ SlI t.H rv (rowT l skew l[i] l.length) ∧ OwnS s.H.length rv) ?_ ?_ ?_
    · exact ⟨pn, by simp [upd, k0], by simp [upd, k1], by simp [upd, k5], by simp [upd, k6], by simp [upd, k7], by simp [upd], nv, by simp [upd], sn, on⟩
    · clear k0 k1 k5 k6 k7
      rintro j t hj ⟨tH, k0, k1, k5, k6, k7, k9, rv, k8, rs, ro⟩
      have pt := kH.trans tH
      have lt := hl.pre pt
      have wt := hw.pre kH
      simp only [go_sem, ↓reduceIte, Nat.reduceEqDiff, reduceCtorEq, Nat.reduceAdd, Nat.reduceLeDiff, Nat.reduceMul, k0, k1, k5, k6, k7, k8, k9, lt.len]
      cases d1 : decide ((j : Int) < (l.length : Int)) <;> simp only [go_sem, ↓reduceIte, Nat.reduceEqDiff, reduceCtorEq, Nat.reduceAdd, Nat.reduceLeDiff, Nat.reduceMul, k0, k1, k5, k6, k7, k8, k9, d1]
      · have : j = l.length := by have := of_decide_eq_false d1; omega
        subst this
        exact ⟨tH, rv, rfl, rs, ro⟩
      have hjl : j < l.length := by have := of_decide_eq_true d1; omega
      have w1 := wrap64 ((j : Int) + 1) (by omega) (by omega)
      have hci := cl_at q0 hil
      have hcj := cl_at q0 hjl
      obtain ⟨id, q, o, ho, hr, hia⟩ := lt.int (List.getElem?_eq_getElem hjl)
      obtain ⟨id2, q2, o2, ho2, hr2, hia2⟩ := lt.int (List.getElem?_eq_getElem hil)
      have hA : inA l skew l[i] j = (decide (l[j] ≥ l[i]) && decide (l[j] - l[i] ≤ skew)) := by unfold inA; rw [getD_at hjl]
      have wd := wrap64 (l[j] - l[i]) (by omega) (by omega)
      have hno : inA l skew l[i] j = false → SlI t.H rv (rowT l skew l[i] (j + 1)) := fun h => by rw [rowT_f h]; exact rs
      refine go_draw ?_
      cases qa : decide (l[j] ≥ l[i]) <;> simp only [go_sem, ↓reduceIte, Nat.reduceEqDiff, reduceCtorEq, Nat.reduceAdd, Nat.reduceLeDiff, Nat.reduceMul, k0, k1, k5, k6, k7, k8, k9, hia, ho, hr, hia2, ho2, hr2, qa, wd]
      · refine ⟨by rfl, ?_⟩
        simp only [go_sem, ↓reduceIte, Nat.reduceEqDiff, reduceCtorEq, Nat.reduceAdd, Nat.reduceLeDiff, Nat.reduceMul, k0, k1, k5, k6, k7, k8, k9, w1]
        exact ⟨hjl, tH, by simp, rv, rfl, hno (by rw [hA, qa]; rfl), ro⟩
      refine ⟨by rfl, ?_⟩
      cases qb : decide (l[j] - l[i] ≤ skew) <;> simp only [go_sem, ↓reduceIte, Nat.reduceEqDiff, reduceCtorEq, Nat.reduceAdd, Nat.reduceLeDiff, Nat.reduceMul, k0, k1, k5, k6, k7, k8, k9, w1, qb]
      · exact ⟨hjl, tH, by simp, rv, rfl, hno (by rw [hA, qa, qb]; rfl), ro⟩
      have hlr := rowT_len l skew l[i] j
      obtain ⟨u, H', a1, a2, a3, a4, a5, a6, a7⟩ := rs.oneI (m := m) (j : Int) ro tH.length_le wt (by omega)
      rw [a1]
      rotate_left
      · rfl
      · rfl
      · rfl
      simp only [go_sem, ↓reduceIte, Nat.reduceEqDiff, reduceCtorEq, Nat.reduceAdd, Nat.reduceLeDiff, Nat.reduceMul, k0, k1, k5, k6, k7, k9, w1]
      refine ⟨hjl, a7 s.H (Nat.le_refl _) tH, by simp, u, rfl, ?_, a3⟩
      rw [rowT_t (by rw [hA, qa, qb]; rfl)]
      exact a2
    · clear k0 k1 k5 k6 k7
      rintro t ⟨tH, k0, k1, k5, k6, k7, rv, k8, rs, ro⟩
      have pt := kH.trans tH
      have lt := hl.pre pt
      have bt := bs.pre tH
      have w1 := wrap64 ((i : Int) + 1) (by omega) (by omega)
      obtain ⟨id2, q2, o2, ho2, hr2, hia2⟩ := lt.int (List.getElem?_eq_getElem hil)
      have hgi := getD_at hil
      have hkeep : btr (rowT l skew l[i] l.length) (bestT l skew i).1 l[i] (bestT l skew i).2 = false → bestT l skew (i + 1) = bestT l skew i := fun h => bestT_f hgi h
      have hnew : btr (rowT l skew l[i] l.length) (bestT l skew i).1 l[i] (bestT l skew i).2 = true → bestT l skew (i + 1) = (rowT l skew l[i] l.length, l[i]) := fun h => bestT_t hgi h
      simp only [go_sem, ↓reduceIte, Nat.reduceEqDiff, reduceCtorEq, Nat.reduceAdd, Nat.reduceLeDiff, Nat.reduceMul, k0, k1, k5, k6, k7, k8, rs.len, bt.len]
      cases qa : decide (((rowT l skew l[i] l.length).length : Int) > ((bestT l skew i).1.length : Int)) <;> simp only [go_sem, ↓reduceIte, Nat.reduceEqDiff, reduceCtorEq, Nat.reduceAdd, Nat.reduceLeDiff, Nat.reduceMul, k0, k1, k5, k6, k7, k8, qa, rs.len, bt.len]
      · cases qb : decide (((rowT l skew l[i] l.length).length : Int) = ((bestT l skew i).1.length : Int)) <;> simp only [go_sem, ↓reduceIte, Nat.reduceEqDiff, reduceCtorEq, Nat.reduceAdd, Nat.reduceLeDiff, Nat.reduceMul, k0, k1, k5, k6, k7, k8, qb, w1]
        · have e := hkeep (by unfold btr; rw [qa, qb]; rfl)
          refine ⟨hil, pt, by rw [e], by simp, bv, rfl, by rw [e]; exact bt, bo⟩
        cases qc : decide (l[i] < (bestT l skew i).2) <;> simp only [go_sem, ↓reduceIte, Nat.reduceEqDiff, reduceCtorEq, Nat.reduceAdd, Nat.reduceLeDiff, Nat.reduceMul, k0, k1, k5, k6, k7, k8, hia2, ho2, hr2, qc, w1]
        · have e := hkeep (by unfold btr; rw [qa, qb, qc]; rfl)
          refine ⟨hil, pt, by rw [e], by simp, bv, rfl, by rw [e]; exact bt, bo⟩
        · have e := hnew (by unfold btr; rw [qa, qb, qc]; rfl)
          refine ⟨hil, pt, by rw [e], by simp, rv, rfl, by rw [e]; exact rs, ro.mono kH.length_le⟩
      · simp only [go_sem, ↓reduceIte, Nat.reduceEqDiff, reduceCtorEq, Nat.reduceAdd, Nat.reduceLeDiff, Nat.reduceMul, k0, k1, k5, k6, k7, k8, hia2, ho2, hr2, w1]
        have e := hnew (by unfold btr; rw [qa]; rfl)
        refine ⟨hil, pt, by rw [e], by simp, rv, rfl, by rw [e]; exact rs, ro.mono kH.length_le⟩
  · rintro s ⟨kH, bv, k5, bs, bo⟩
    simp only [go_sem, ↓reduceIte, Nat.reduceEqDiff, reduceCtorEq, Nat.reduceAdd, Nat.reduceLeDiff, Nat.reduceMul, k5]
    rw [show agrR l skew = (bestT l skew l.length).1 by unfold agrR; rw [if_pos ⟨q0, hsk⟩]]
    exact ⟨kH, bs, bo⟩
end Go.Proofs.Ytfkecldlhngjhaa.Ev

/- Clocks: those that agree, the program's way. -/
namespace Go.Proofs.Ytfkecldlhngjhaa.Ev
set_option linter.all false
open Go
set_option maxRecDepth 4000

theorem f40 {m : Md} {H : Hp} {v : Value} {l : List Int} {skew : Int} (hl : SlI H v l) (hw : Wr m H) : Fun EE m 40 [v, .int .i64 skew] H fun r H' => FreshS eI 1 H r H' (agrR l skew) := by
  refine fun_f rfl rfl k40 (by simp [c40]) ?_
  have hroom := hl.room
  have p0 : H <+: H ++ [[]] := List.prefix_append _ _
  have s0 := own_newI (H := H)
  have o0 : OwnS H.length (.slice (some ⟨H.length, 0, some 1⟩) 0 (0 * 1)) := .inr ⟨_, _, _, _, rfl, Nat.le_refl _⟩
  generalize hwv : Value.slice (some ⟨H.length, 0, some 1⟩) 0 (0 * 1) = wv0 at s0 o0
  have l0 := hl.pre p0
  have w0 := hw.pre p0
  have a17 := fun {m draw s d ts Q} => callT_at (m := m) (draw := draw) (s := s) (d := d) (ts := ts) (Q := Q) (f17 l0)
  simp only [go_sem, ↓reduceIte, Nat.reduceEqDiff, reduceCtorEq, Nat.reduceAdd, Nat.reduceLeDiff, Nat.reduceMul, c40, fillL, hwv, a17, w0]
  cases q0 : clOk l <;> simp only [go_sem, ↓reduceIte, Nat.reduceEqDiff, reduceCtorEq, Nat.reduceAdd, Nat.reduceLeDiff, Nat.reduceMul, q0]
  · rw [agr_no (by rw [q0]; simp)]
    exact ⟨p0, s0, o0⟩
  cases q1 : decide (skew < 0) <;> simp only [go_sem, ↓reduceIte, Nat.reduceEqDiff, reduceCtorEq, Nat.reduceAdd, Nat.reduceLeDiff, Nat.reduceMul, q1]
  rotate_left
  · rw [agr_no (by have := of_decide_eq_true q1; omega)]
    exact ⟨p0, s0, o0⟩
  have h8 := cl_len q0
  have hsk : 0 ≤ skew := by have := of_decide_eq_false q1; omega
  simp only [go_sem, ↓reduceIte, Nat.reduceEqDiff, reduceCtorEq, Nat.reduceAdd, Nat.reduceLeDiff, Nat.reduceMul, l0.len]
  refine go_for l.length (fun i s => H <+: s.H ∧ s.ρ 0 = .val v ∧ s.ρ 1 = .val (.int .i64 skew) ∧ s.ρ 6 = .val (.int .i64 (bestT l skew i).2) ∧ s.ρ 21 = .val v ∧ s.ρ 22 = .val (.int .i64 l.length) ∧ s.ρ 23 = .val (.int .i64 i) ∧ ∃ bv, s.ρ 5 = .val bv ∧ SlI s.H bv (bestT l skew i).1 ∧ OwnS H.length bv)
    (fun s => H <+: s.H ∧ ∃ bv, s.ρ 5 = .val bv ∧ SlI s.H bv (bestT l skew l.length).1 ∧ OwnS H.length bv) ?_ ?_ ?_
  · exact ⟨p0, by simp [upd, ini], by simp [upd, ini], by simp [upd, bestT], by simp [upd, ini], by simp [upd], by simp [upd], wv0, by simp [upd], s0, o0⟩
  · rintro i s hi ⟨kH, k0, k1, k6, k21, k22, k23, bv, k5, bs, bo⟩
    have lk := hl.pre kH
    simp only [go_sem, ↓reduceIte, Nat.reduceEqDiff, reduceCtorEq, Nat.reduceAdd, Nat.reduceLeDiff, Nat.reduceMul, k0, k1, k5, k6, k21, k22, k23]
    cases c1 : decide ((i : Int) < (l.length : Int)) <;> simp only [go_sem, ↓reduceIte, Nat.reduceEqDiff, reduceCtorEq, Nat.reduceAdd, Nat.reduceLeDiff, Nat.reduceMul, k0, k1, k5, k6, k21, k22, k23, c1]
    · have : i = l.length := by have := of_decide_eq_false c1; omega
      subst this
      exact ⟨kH, bv, rfl, bs, bo⟩
    have hil : i < l.length := by have := of_decide_eq_true c1; omega
    obtain ⟨id0, q0', o0', ho0, hr0, hia0⟩ := lk.int (List.getElem?_eq_getElem hil)
    have pn : s.H <+: s.H ++ [[]] := List.prefix_append _ _
    have lkn := lk.pre pn
    have sn := own_newI (H := s.H)
    have on : OwnS s.H.length (.slice (some ⟨s.H.length, 0, some 1⟩) 0 (0 * 1)) := .inr ⟨_, _, _, _, rfl, Nat.le_refl _⟩
    generalize hnv : Value.slice (some ⟨s.H.length, 0, some 1⟩) 0 (0 * 1) = nv at sn on
    simp only [go_sem, ↓reduceIte, Nat.reduceEqDiff, reduceCtorEq, Nat.reduceAdd, Nat.reduceLeDiff, Nat.reduceMul, k0, k1, k5, k6, k21, k22, k23, hia0, ho0, hr0, fillL, hnv, lkn.len]
    refine go_for l.length (fun j t => s.H <+: t.H ∧ t.ρ 1 = .val (.int .i64 skew) ∧ t.ρ 0 = .val v ∧ t.ρ 5 = .val bv ∧ t.ρ 6 = .val (.int .i64 (bestT l skew i).2) ∧ t.ρ 8 = .val (.int .i64 l[i]) ∧ t.ρ 21 = .val v ∧ t.ρ 22 = .val (.int .i64 l.length) ∧ t.ρ 23 = .val (.int .i64 i) ∧
        t.ρ 28 = .val v ∧ t.ρ 29 = .val (.int .i64 l.length) ∧ t.ρ 30 = .val (.int .i64 j) ∧ ∃ rv, t.ρ 9 = .val rv ∧ SlI t.H rv (rowT l skew l[i] j) ∧ OwnS s.H.length rv)
      (fun t => s.H <+: t.H ∧ t.ρ 1 = .val (.int .i64 skew) ∧ t.ρ 0 = .val v ∧ t.ρ 5 = .val bv ∧ t.ρ 6 = .val (.int .i64 (bestT l skew i).2) ∧ t.ρ 8 = .val (.int .i64 l[i]) ∧ t.ρ 21 = .val v ∧ t.ρ 22 = .val (.int .i64 l.length) ∧ t.ρ 23 = .val (.int .i64 i) ∧
        ∃ rv, t.ρ 9 = .val rv ∧ SlI t.H rv (rowT l skew l[i] l.length) ∧ OwnS s.H.length rv) ?_ ?_ ?_
    · exact ⟨pn, by simp [upd, k1], by simp [upd, k0], by simp [upd, k5], by simp [upd, k6], by simp [upd], by simp [upd, k21], by simp [upd, k22], by simp [upd, k23], by simp [upd, k0], by simp [upd], by simp [upd], nv, by simp [upd], sn, on⟩
    · clear k0 k1 k5 k6 k21 k22 k23
      rintro j t hj ⟨tH, k1, k0, k5, k6, k8, k21, k22, k23, k28, k29, k30, rv, k9, rs, ro⟩
      have pt := kH.trans tH
      have lt := hl.pre pt
      have wt := hw.pre kH
      simp only [go_sem, ↓reduceIte, Nat.reduceEqDiff, reduceCtorEq, Nat.reduceAdd, Nat.reduceLeDiff, Nat.reduceMul, k0, k1, k5, k6, k8, k9, k21, k22, k23, k28, k29, k30]
      cases d1 : decide ((j : Int) < (l.length : Int)) <;> simp only [go_sem, ↓reduceIte, Nat.reduceEqDiff, reduceCtorEq, Nat.reduceAdd, Nat.reduceLeDiff, Nat.reduceMul, k0, k1, k5, k6, k8, k9, k21, k22, k23, k28, k29, k30, d1]
      · have : j = l.length := by have := of_decide_eq_false d1; omega
        subst this
        exact ⟨tH, rv, rfl, rs, ro⟩
      have hjl : j < l.length := by have := of_decide_eq_true d1; omega
      have w1 := wrap64 ((j : Int) + 1) (by omega) (by omega)
      have hci := cl_at q0 hil
      have hcj := cl_at q0 hjl
      obtain ⟨id, q, o, ho, hr, hia⟩ := lt.int (List.getElem?_eq_getElem hjl)
      have hA : inA l skew l[i] j = (decide (l[j] ≥ l[i]) && decide (l[j] - l[i] ≤ skew)) := by unfold inA; rw [getD_at hjl]
      have wd := wrap64 (l[j] - l[i]) (by omega) (by omega)
      have hno : inA l skew l[i] j = false → SlI t.H rv (rowT l skew l[i] (j + 1)) := fun h => by rw [rowT_f h]; exact rs
      simp only [go_sem, ↓reduceIte, Nat.reduceEqDiff, reduceCtorEq, Nat.reduceAdd, Nat.reduceLeDiff, Nat.reduceMul, k0, k1, k5, k6, k8, k9, k21, k22, k23, k28, k29, k30, hia, ho, hr]
      cases qa : decide (l[j] ≥ l[i]) <;> simp only [go_sem, ↓reduceIte, Nat.reduceEqDiff, reduceCtorEq, Nat.reduceAdd, Nat.reduceLeDiff, Nat.reduceMul, k0, k1, k5, k6, k8, k9, k21, k22, k23, k28, k29, k30, qa, wd, w1]
      · exact ⟨hjl, tH, by simp, rv, rfl, hno (by rw [hA, qa]; rfl), ro⟩
      cases qb : decide (l[j] - l[i] ≤ skew) <;> simp only [go_sem, ↓reduceIte, Nat.reduceEqDiff, reduceCtorEq, Nat.reduceAdd, Nat.reduceLeDiff, Nat.reduceMul, k0, k1, k5, k6, k8, k9, k21, k22, k23, k28, k29, k30, w1, qb]
      · exact ⟨hjl, tH, by simp, rv, rfl, hno (by rw [hA, qa, qb]; rfl), ro⟩
      have hlr := rowT_len l skew l[i] j
      obtain ⟨u, H', a1, a2, a3, a4, a5, a6, a7⟩ := rs.oneI (m := m) (j : Int) ro tH.length_le wt (by omega)
      rw [a1]
      rotate_left
      · rfl
      · rfl
      · rfl
      simp only [go_sem, ↓reduceIte, Nat.reduceEqDiff, reduceCtorEq, Nat.reduceAdd, Nat.reduceLeDiff, Nat.reduceMul, k0, k1, k5, k6, k8, k21, k22, k23, k28, k29, k30, w1]
      refine ⟨hjl, a7 s.H (Nat.le_refl _) tH, by simp, u, rfl, ?_, a3⟩
      rw [rowT_t (by rw [hA, qa, qb]; rfl)]
      exact a2
    · clear k0 k1 k5 k6 k21 k22 k23
      rintro t ⟨tH, k1, k0, k5, k6, k8, k21, k22, k23, rv, k9, rs, ro⟩
      have pt := kH.trans tH
      have lt := hl.pre pt
      have bt := bs.pre tH
      have w1 := wrap64 ((i : Int) + 1) (by omega) (by omega)
      have hgi := getD_at hil
      have hkeep : btr (rowT l skew l[i] l.length) (bestT l skew i).1 l[i] (bestT l skew i).2 = false → bestT l skew (i + 1) = bestT l skew i := fun h => bestT_f hgi h
      have hnew : btr (rowT l skew l[i] l.length) (bestT l skew i).1 l[i] (bestT l skew i).2 = true → bestT l skew (i + 1) = (rowT l skew l[i] l.length, l[i]) := fun h => bestT_t hgi h
      simp only [go_sem, ↓reduceIte, Nat.reduceEqDiff, reduceCtorEq, Nat.reduceAdd, Nat.reduceLeDiff, Nat.reduceMul, k0, k1, k5, k6, k8, k9, k21, k22, k23, rs.len, bt.len]
      cases qa : decide (((rowT l skew l[i] l.length).length : Int) > ((bestT l skew i).1.length : Int)) <;> simp only [go_sem, ↓reduceIte, Nat.reduceEqDiff, reduceCtorEq, Nat.reduceAdd, Nat.reduceLeDiff, Nat.reduceMul, k0, k1, k5, k6, k8, k9, k21, k22, k23, qa, rs.len, bt.len]
      · cases qb : decide (((rowT l skew l[i] l.length).length : Int) = ((bestT l skew i).1.length : Int)) <;> simp only [go_sem, ↓reduceIte, Nat.reduceEqDiff, reduceCtorEq, Nat.reduceAdd, Nat.reduceLeDiff, Nat.reduceMul, k0, k1, k5, k6, k8, k9, k21, k22, k23, qb, w1]
        · have e := hkeep (by unfold btr; rw [qa, qb]; rfl)
          refine ⟨hil, pt, by rw [e], by simp, bv, rfl, by rw [e]; exact bt, bo⟩
        cases qc : decide (l[i] < (bestT l skew i).2) <;> simp only [go_sem, ↓reduceIte, Nat.reduceEqDiff, reduceCtorEq, Nat.reduceAdd, Nat.reduceLeDiff, Nat.reduceMul, k0, k1, k5, k6, k8, k9, k21, k22, k23, qc, w1]
        · have e := hkeep (by unfold btr; rw [qa, qb, qc]; rfl)
          refine ⟨hil, pt, by rw [e], by simp, bv, rfl, by rw [e]; exact bt, bo⟩
        · have e := hnew (by unfold btr; rw [qa, qb, qc]; rfl)
          refine ⟨hil, pt, by rw [e], by simp, rv, rfl, by rw [e]; exact rs, ro.mono kH.length_le⟩
      · simp only [go_sem, ↓reduceIte, Nat.reduceEqDiff, reduceCtorEq, Nat.reduceAdd, Nat.reduceLeDiff, Nat.reduceMul, k0, k1, k5, k6, k8, k9, k21, k22, k23, w1]
        have e := hnew (by unfold btr; rw [qa]; rfl)
        refine ⟨hil, pt, by rw [e], by simp, rv, rfl, by rw [e]; exact rs, ro.mono kH.length_le⟩
  · rintro s ⟨kH, bv, k5, bs, bo⟩
    simp only [go_sem, ↓reduceIte, Nat.reduceEqDiff, reduceCtorEq, Nat.reduceAdd, Nat.reduceLeDiff, Nat.reduceMul, k5]
    rw [show agrR l skew = (bestT l skew l.length).1 by unfold agrR; rw [if_pos ⟨q0, hsk⟩]]
    exact ⟨kH, bs, bo⟩
end Go.Proofs.Ytfkecldlhngjhaa.Ev

/- Draws: the cursor, numbers, choices and texts drawn by it. -/
namespace Go.Proofs.Ytfkecldlhngjhaa.Ev
set_option linter.all false
open Go
set_option maxRecDepth 4000

theorem fun_t {E : Env} {m : Md} {f : Nat} {cf : CF} {vs : List Value} {H : Hp} {Q : Value → Hp → Prop} (ht : E.tr f = true) (hp : E.prim f = none) (hf : E.fns f = some cf) (hl : vs.length ≤ cf.nt)
    (h : ∀ m' : Md, (∀ id, m'.wr id = m.wr id) → go E m' [.c cf.body] { ρ := ini vs, gn := 0, H := H } (Post cf.res true H Q)) : Fun E m f vs H Q :=
  fun_ok ht hp hf hl (h _ fun _ => rfl)
theorem callD {E : Env} {m : Md} {f : Nat} {vs : List Value} {H : Hp} {P : Value → Hp → Prop} {s : St} {d : Option Nat} {ts : List Tk} {Q : Ex → St → Prop} (h : Fun E m f vs H P) (hH : s.H = H)
    (hq : ∀ r H', P r H' → go E m ts { s with H := H', ρ := upd s.ρ d (.val r) } Q) : callT E m false f (some vs) s d ts Q := by
  subst hH
  unfold callT opt
  exact h.mono hq

def eU (n : Int) : List Value := [.int .u8 n]
abbrev SlU (H : Hp) (v : Value) (l : List Int) : Prop := Sl (En eU) 1 H v l
theorem Sl.byte {H : Hp} {v : Value} {l : List Int} (h : SlU H v l) {i : Nat} {a : Int} (hi : l[i]? = some a) : ∃ id p o, H[id]? = some o ∧ o[p]? = some (.int .u8 a) ∧
    ∀ (s : St) (x y : X), exv s.ρ x = some v → exv s.ρ y = some (.int .i64 i) → iadrK s 1 x y = some (.val (.pointer (some ⟨id, p, some o.length⟩)), s) := by
  obtain ⟨id, p, o, ho, hr, hp, hia⟩ := h.elem hi
  unfold En at hr
  exact ⟨id, p, o, ho, by simpa [eU] using getElem?_of_take hr (j := 0) (by omega), hia⟩

/-- A cursor over a draw's bytes. -/
def Cur (H : Hp) (c : Value) (id : Nat) : Prop := c = .pointer (some ⟨id, 0, some 3⟩) ∧ ∃ b i h bl, H[id]? = some [b, .int .i64 i, .int .i64 h] ∧ SlU H b bl ∧ 0 ≤ i ∧ ∀ j ∈ idsOf b, j < id
/-- The cursor has gone on; no more has been done. -/
def CS (H H' : Hp) (c : Value) (id : Nat) : Prop := Cur H' c id ∧ (∀ j, j ≠ id → H'[j]? = H[j]?) ∧ H'.length = H.length
/-- The cursor has gone on; new rows have come. -/
def CX (H H' : Hp) (c : Value) (id : Nat) : Prop := Cur H' c id ∧ (∀ j, j < H.length → j ≠ id → H'[j]? = H[j]?) ∧ H.length ≤ H'.length

theorem CS.trans {H H' H'' : Hp} {c : Value} {id : Nat} (h : CS H H' c id) (k : CS H' H'' c id) : CS H H'' c id := ⟨k.1, fun j hj => (k.2.1 j hj).trans (h.2.1 j hj), k.2.2.trans h.2.2⟩
theorem CS.cx {H H' : Hp} {c : Value} {id : Nat} (h : CS H H' c id) : CX H H' c id := ⟨h.1, fun j _ hj => h.2.1 j hj, by have := h.2.2; omega⟩
theorem CX.trans {H H' H'' : Hp} {c : Value} {id : Nat} (h : CX H H' c id) (k : CX H' H'' c id) : CX H H'' c id := ⟨k.1, fun j hl hj => (k.2.1 j (by have := h.2.2; omega) hj).trans (h.2.1 j hl hj), Nat.le_trans h.2.2 k.2.2⟩
theorem CX.refl {H : Hp} {c : Value} {id : Nat} (h : Cur H c id) : CX H H c id := ⟨h, fun _ _ _ => rfl, Nat.le_refl _⟩
theorem Sl.cs {α : Type} {R : α → List Value → Prop} {esz : Nat} {H H' : Hp} {v c : Value} {l : List α} {id : Nat} (h : Sl R esz H v l) (hc : CS H H' c id) (hid : id ∉ idsOf v) : Sl R esz H' v l :=
  h.frame (fun _ _ _ h => h) fun i off e ln cap hv => hc.2.1 i (fun e2 => hid (by subst hv; subst e2; simp [idsOf]))
theorem Sl.cx {α : Type} {R : α → List Value → Prop} {esz : Nat} {H H' : Hp} {v c : Value} {l : List α} {id : Nat} (h : Sl R esz H v l) (hc : CX H H' c id) (hid : id ∉ idsOf v) : Sl R esz H' v l :=
  h.frame (fun _ _ _ h => h) fun i off e ln cap hv => hc.2.1 i (h.ids i (by subst hv; simp [idsOf])) (fun e2 => hid (by subst hv; subst e2; simp [idsOf]))

theorem Cur.keep {H H' : Hp} {c : Value} {id : Nat} (h : Cur H c id) (hk : ∀ j, j ≤ id → H'[j]? = H[j]?) : Cur H' c id := by
  obtain ⟨rfl, b, i, g, bl, hid, hb, hi, hnb⟩ := h
  exact ⟨rfl, b, i, g, bl, by rw [hk id (Nat.le_refl _)]; exact hid, hb.frame (fun _ _ _ h => h) (fun x off e ln cap hv => hk x (Nat.le_of_lt (hnb x (by subst hv; simp [idsOf])))), hi, hnb⟩
theorem Cur.lt {H : Hp} {c : Value} {id : Nat} (h : Cur H c id) : id < H.length := by
  obtain ⟨rfl, b, i, g, bl, hid, _⟩ := h
  exact (List.getElem?_eq_some_iff.1 hid).1
theorem Cur.pre {H H' : Hp} {c : Value} {id : Nat} (h : Cur H c id) (hp : H <+: H') : Cur H' c id := h.keep fun j hj => pre_get hp (by have := h.lt; omega)
theorem CX.ofPre {H H' : Hp} {c : Value} {id : Nat} (h : Cur H c id) (hp : H <+: H') : CX H H' c id := ⟨h.pre hp, fun j hj _ => pre_get hp hj, hp.length_le⟩
/-- Rows of one's own have changed; the cursor hasn't. -/
theorem CX.own {H H1 H' : Hp} {c : Value} {id : Nat} (h : CX H H1 c id) (hid : id < H.length) (hk : ∀ j, j < H.length → H'[j]? = H1[j]?) (hl : H1.length ≤ H'.length) : CX H H' c id :=
  ⟨h.1.keep fun j hj => hk j (by omega), fun j hj hne => (hk j hj).trans (h.2.1 j hj hne), Nat.le_trans h.2.2 hl⟩
theorem CX.cut {H H' : Hp} {c : Value} {id : Nat} (h : CX H H' c id) (hid : id < H.length) : CS H (H'.take H.length) c id := by
  have hl : (H'.take H.length).length = H.length := by rw [List.length_take]; have := h.2.2; omega
  refine ⟨h.1.keep fun j hj => by rw [List.getElem?_take, if_pos (by omega)], fun j hj => ?_, hl⟩
  by_cases hjl : j < H.length
  · rw [List.getElem?_take, if_pos hjl]; exact h.2.1 j hjl hj
  · rw [List.getElem?_eq_none (by omega), List.getElem?_eq_none (by omega)]
theorem CS.cut {H H' : Hp} {c : Value} {id : Nat} (h : CS H H' c id) : CS H (H'.take H.length) c id := by
  rw [List.take_of_length_le (Nat.le_of_eq h.2.2)]; exact h
theorem CX.pre {H0 H H' : Hp} {c : Value} {id : Nat} (h : CX H H' c id) (hp : H0 <+: H) (hid : H0.length ≤ id) : H0 <+: H' := by
  refine List.prefix_iff_getElem?.2 fun j hj => ?_
  have := hp.length_le
  rw [h.2.1 j (by omega) (by omega), pre_get hp hj, List.getElem?_eq_getElem hj]

theorem and255 (a : Int) : 0 ≤ IntKind.i64.wrap ((BitVec.ofInt IntKind.i64.bits a &&& BitVec.ofInt IntKind.i64.bits 255).toNat : Int) ∧ IntKind.i64.wrap ((BitVec.ofInt IntKind.i64.bits a &&& BitVec.ofInt IntKind.i64.bits 255).toNat : Int) ≤ 255 := by
  have h : (BitVec.ofInt IntKind.i64.bits a &&& BitVec.ofInt IntKind.i64.bits 255).toNat ≤ 255 := by
    rw [BitVec.toNat_and]
    refine Nat.le_trans (Nat.and_le_right) ?_
    decide
  rw [wrap64 _ (by omega) (by omega)]
  omega

theorem f70 {m : Md} {H : Hp} {c : Value} {id : Nat} (hc : Cur H c id) (hw : m.wr id = true) : Fun EE m 70 [c] H fun r H' => ∃ x : Int, r = .int .i64 x ∧ 0 ≤ x ∧ x ≤ 255 ∧ CS H H' c id := by
  refine fun_t rfl rfl k70 (by simp [c70]) fun m' hm => ?_
  have hw : m'.wr id = true := (hm id).trans hw
  obtain ⟨rfl, b, i, h, bl, hid, hb, hi, hnb0⟩ := hc
  have hnb : id ∉ idsOf b := fun hm => by have := hnb0 _ hm; omega
  have hidl := (List.getElem?_eq_some_iff.1 hid).1
  have hset : ∀ q, (H.set id q)[id]? = some q := fun q => List.getElem?_set_self hidl
  have hroom := hb.room
  simp only [go_nil, go_blk, go_skip, go_ret, go_exit, go_seq, go_block, go_reg, go_r0, go_r, go_d0, go_d, go_e0, go_e, box2, Option.isSome_some, Nat.le_refl, go_cond, go_o, go_g, aft_some, cnd_bool, grd_bool, grd_tup, brT_true, brT_false, brT_not, thr_exit, thr_c, thr_nil, stp, stepK, movK, mv1, ex, exv, exvs, upd_some, upd_none, ini, St.val, binK, binV, ofV, pickK, unK, unV, beqK, beq_true, beq_false, if_true, if_false, List.getElem?_cons_zero, List.getElem?_cons_succ, ↓reduceIte, Nat.reduceEqDiff, reduceCtorEq, loadK, adr, deref, Ad.fv, Ad.live, fadrK, List.length_cons, List.length_nil, List.drop_zero, List.drop_succ_cons, List.take_succ_cons, List.take_zero, Nat.reduceAdd, Nat.reduceLeDiff, Nat.zero_add, Nat.add_zero, aeqK, agEq, scEq, boxVK, newVK, exc, vc_agg, vc_int, vc_bool, vc_str, vc_ptr, vc_sl, vc_fn, boxOf, adInf, List.reverse_cons, List.reverse_nil, List.nil_append, List.cons_append, extK, Bool.and_true, Bool.true_and, Bool.not_true, Bool.not_false, resT, resVs, resV, true_and, and_true, storeK, spl_nil, spl_z, spl_1, spl_2, spl_3, spl_4, spl_5, spl_6, spl_7, spl_8, scal_int, scal_bool, scal_str, scal_nil, implies_true, Bool.and_self, Post_ret, Post_normal, PostS_ret, PostS_normal, retT_true, retT_false, flat_bool, flat_int, flat_str, List.take_length, decide_true, decide_false, Option.some.injEq, Value.bool.injEq, Value.int.injEq, Bool.false_and, Bool.and_false, not_false_eq_true, not_true_eq_false, toIntK, List.length_set, Nat.reduceMul, Bool.not_eq_true, Bool.not_eq_false, List.all_cons, List.all_nil, exps, fillL, buildK, strK, nilcK, fnK, callVT, List.size_toArray, List.append_nil, List.singleton_append, boxOK, newOK, scal_nil, List.isEmpty_nil, List.isEmpty_cons, mkVK, mkOK, mkCells, zeros_0, zeros_1, zeros_2, zeros_3, zeros_4, List.map_cons, List.map_nil, c70, hid, hw]
  refine go_draw ?_
  simp only [go_nil, go_blk, go_skip, go_ret, go_exit, go_seq, go_block, go_reg, go_r0, go_r, go_d0, go_d, go_e0, go_e, box2, Option.isSome_some, Nat.le_refl, go_cond, go_o, go_g, aft_some, cnd_bool, grd_bool, grd_tup, brT_true, brT_false, brT_not, thr_exit, thr_c, thr_nil, stp, stepK, movK, mv1, ex, exv, exvs, upd_some, upd_none, ini, St.val, binK, binV, ofV, pickK, unK, unV, beqK, beq_true, beq_false, if_true, if_false, List.getElem?_cons_zero, List.getElem?_cons_succ, ↓reduceIte, Nat.reduceEqDiff, reduceCtorEq, loadK, adr, deref, Ad.fv, Ad.live, fadrK, List.length_cons, List.length_nil, List.drop_zero, List.drop_succ_cons, List.take_succ_cons, List.take_zero, Nat.reduceAdd, Nat.reduceLeDiff, Nat.zero_add, Nat.add_zero, aeqK, agEq, scEq, boxVK, newVK, exc, vc_agg, vc_int, vc_bool, vc_str, vc_ptr, vc_sl, vc_fn, boxOf, adInf, List.reverse_cons, List.reverse_nil, List.nil_append, List.cons_append, extK, Bool.and_true, Bool.true_and, Bool.not_true, Bool.not_false, resT, resVs, resV, true_and, and_true, storeK, spl_nil, spl_z, spl_1, spl_2, spl_3, spl_4, spl_5, spl_6, spl_7, spl_8, scal_int, scal_bool, scal_str, scal_nil, implies_true, Bool.and_self, Post_ret, Post_normal, PostS_ret, PostS_normal, retT_true, retT_false, flat_bool, flat_int, flat_str, List.take_length, decide_true, decide_false, Option.some.injEq, Value.bool.injEq, Value.int.injEq, Bool.false_and, Bool.and_false, not_false_eq_true, not_true_eq_false, toIntK, List.length_set, Nat.reduceMul, Bool.not_eq_true, Bool.not_eq_false, List.all_cons, List.all_nil, exps, fillL, buildK, strK, nilcK, fnK, callVT, List.size_toArray, List.append_nil, List.singleton_append, boxOK, newOK, scal_nil, List.isEmpty_nil, List.isEmpty_cons, mkVK, mkOK, mkCells, zeros_0, zeros_1, zeros_2, zeros_3, zeros_4, List.map_cons, List.map_nil, hset, Int.reduceLT, Bool.false_eq_true]
  refine ⟨by rfl, ?_⟩
  refine go_draw ?_
  simp only [go_nil, go_blk, go_skip, go_ret, go_exit, go_seq, go_block, go_reg, go_r0, go_r, go_d0, go_d, go_e0, go_e, box2, Option.isSome_some, Nat.le_refl, go_cond, go_o, go_g, aft_some, cnd_bool, grd_bool, grd_tup, brT_true, brT_false, brT_not, thr_exit, thr_c, thr_nil, stp, stepK, movK, mv1, ex, exv, exvs, upd_some, upd_none, ini, St.val, binK, binV, ofV, pickK, unK, unV, beqK, beq_true, beq_false, if_true, if_false, List.getElem?_cons_zero, List.getElem?_cons_succ, ↓reduceIte, Nat.reduceEqDiff, reduceCtorEq, loadK, adr, deref, Ad.fv, Ad.live, fadrK, List.length_cons, List.length_nil, List.drop_zero, List.drop_succ_cons, List.take_succ_cons, List.take_zero, Nat.reduceAdd, Nat.reduceLeDiff, Nat.zero_add, Nat.add_zero, aeqK, agEq, scEq, boxVK, newVK, exc, vc_agg, vc_int, vc_bool, vc_str, vc_ptr, vc_sl, vc_fn, boxOf, adInf, List.reverse_cons, List.reverse_nil, List.nil_append, List.cons_append, extK, Bool.and_true, Bool.true_and, Bool.not_true, Bool.not_false, resT, resVs, resV, true_and, and_true, storeK, spl_nil, spl_z, spl_1, spl_2, spl_3, spl_4, spl_5, spl_6, spl_7, spl_8, scal_int, scal_bool, scal_str, scal_nil, implies_true, Bool.and_self, Post_ret, Post_normal, PostS_ret, PostS_normal, retT_true, retT_false, flat_bool, flat_int, flat_str, List.take_length, decide_true, decide_false, Option.some.injEq, Value.bool.injEq, Value.int.injEq, Bool.false_and, Bool.and_false, not_false_eq_true, not_true_eq_false, toIntK, List.length_set, Nat.reduceMul, Bool.not_eq_true, Bool.not_eq_false, List.all_cons, List.all_nil, exps, fillL, buildK, strK, nilcK, fnK, callVT, List.size_toArray, List.append_nil, List.singleton_append, boxOK, newOK, scal_nil, List.isEmpty_nil, List.isEmpty_cons, mkVK, mkOK, mkCells, zeros_0, zeros_1, zeros_2, zeros_3, zeros_4, List.map_cons, List.map_nil, hset, Int.reduceLT]
  simp only [go_nil, go_blk, go_skip, go_ret, go_exit, go_seq, go_block, go_reg, go_r0, go_r, go_d0, go_d, go_e0, go_e, box2, Option.isSome_some, Nat.le_refl, go_cond, go_o, go_g, aft_some, cnd_bool, grd_bool, grd_tup, brT_true, brT_false, brT_not, thr_exit, thr_c, thr_nil, stp, stepK, movK, mv1, ex, exv, exvs, upd_some, upd_none, ini, St.val, binK, binV, ofV, pickK, unK, unV, beqK, beq_true, beq_false, if_true, if_false, List.getElem?_cons_zero, List.getElem?_cons_succ, ↓reduceIte, Nat.reduceEqDiff, reduceCtorEq, loadK, adr, deref, Ad.fv, Ad.live, fadrK, List.length_cons, List.length_nil, List.drop_zero, List.drop_succ_cons, List.take_succ_cons, List.take_zero, Nat.reduceAdd, Nat.reduceLeDiff, Nat.zero_add, Nat.add_zero, aeqK, agEq, scEq, boxVK, newVK, exc, vc_agg, vc_int, vc_bool, vc_str, vc_ptr, vc_sl, vc_fn, boxOf, adInf, List.reverse_cons, List.reverse_nil, List.nil_append, List.cons_append, extK, Bool.and_true, Bool.true_and, Bool.not_true, Bool.not_false, resT, resVs, resV, true_and, and_true, storeK, spl_nil, spl_z, spl_1, spl_2, spl_3, spl_4, spl_5, spl_6, spl_7, spl_8, scal_int, scal_bool, scal_str, scal_nil, implies_true, Bool.and_self, Post_ret, Post_normal, PostS_ret, PostS_normal, retT_true, retT_false, flat_bool, flat_int, flat_str, List.take_length, decide_true, decide_false, Option.some.injEq, Value.bool.injEq, Value.int.injEq, Bool.false_and, Bool.and_false, not_false_eq_true, not_true_eq_false, toIntK, List.length_set, Nat.reduceMul, Bool.not_eq_true, Bool.not_eq_false, List.all_cons, List.all_nil, exps, fillL, buildK, strK, nilcK, fnK, callVT, List.size_toArray, List.append_nil, List.singleton_append, boxOK, newOK, scal_nil, List.isEmpty_nil, List.isEmpty_cons, mkVK, mkOK, mkCells, zeros_0, zeros_1, zeros_2, zeros_3, zeros_4, List.map_cons, List.map_nil, hb.len, Int.reduceLT]
  refine ⟨by rfl, ?_⟩
  have done : ∀ (i' h' : Int) (q : List Value), 0 ≤ i' → q = [b, .int .i64 i', .int .i64 h'] → CS H (H.set id q) (.pointer (some ⟨id, 0, some 3⟩)) id := fun i' h' q hi' hq => by
    subst hq
    exact ⟨⟨rfl, b, i', h', bl, hset _, hb.other hnb, hi', hnb0⟩, fun j hj => List.getElem?_set_ne (fun e => hj e.symm), by simp⟩
  have hcut : ∀ q : List Value, (H.set id q).take H.length = H.set id q := fun q => List.take_of_length_le (by simp)
  refine brT.intro (fun c1 => ?_) (fun c1 => ?_)
  · obtain ⟨k, rfl⟩ : ∃ k : Nat, i = k := ⟨i.toNat, by omega⟩
    have hk : k < bl.length := by have := of_decide_eq_true c1; omega
    obtain ⟨idb, pb, ob, hob, hrb, hiab⟩ := (hb.other (r := [b, .int .i64 k, .int .i64 (IntKind.i64.wrap (IntKind.i64.wrap (h * 6364136223846793005) + 1442695040888963407))]) hnb).byte (List.getElem?_eq_getElem hk)
    simp only [go_nil, go_blk, go_skip, go_ret, go_exit, go_seq, go_block, go_reg, go_r0, go_r, go_d0, go_d, go_e0, go_e, box2, Option.isSome_some, Nat.le_refl, go_cond, go_o, go_g, aft_some, cnd_bool, grd_bool, grd_tup, brT_true, brT_false, brT_not, thr_exit, thr_c, thr_nil, stp, stepK, movK, mv1, ex, exv, exvs, upd_some, upd_none, ini, St.val, binK, binV, ofV, pickK, unK, unV, beqK, beq_true, beq_false, if_true, if_false, List.getElem?_cons_zero, List.getElem?_cons_succ, ↓reduceIte, Nat.reduceEqDiff, reduceCtorEq, loadK, adr, deref, Ad.fv, Ad.live, fadrK, List.length_cons, List.length_nil, List.drop_zero, List.drop_succ_cons, List.take_succ_cons, List.take_zero, Nat.reduceAdd, Nat.reduceLeDiff, Nat.zero_add, Nat.add_zero, aeqK, agEq, scEq, boxVK, newVK, exc, vc_agg, vc_int, vc_bool, vc_str, vc_ptr, vc_sl, vc_fn, boxOf, adInf, List.reverse_cons, List.reverse_nil, List.nil_append, List.cons_append, extK, Bool.and_true, Bool.true_and, Bool.not_true, Bool.not_false, resT, resVs, resV, true_and, and_true, storeK, spl_nil, spl_z, spl_1, spl_2, spl_3, spl_4, spl_5, spl_6, spl_7, spl_8, scal_int, scal_bool, scal_str, scal_nil, implies_true, Bool.and_self, Post_ret, Post_normal, PostS_ret, PostS_normal, retT_true, retT_false, flat_bool, flat_int, flat_str, List.take_length, decide_true, decide_false, Option.some.injEq, Value.bool.injEq, Value.int.injEq, Bool.false_and, Bool.and_false, not_false_eq_true, not_true_eq_false, toIntK, List.length_set, Nat.reduceMul, Bool.not_eq_true, Bool.not_eq_false, List.all_cons, List.all_nil, exps, fillL, buildK, strK, nilcK, fnK, callVT, List.size_toArray, List.append_nil, List.singleton_append, boxOK, newOK, scal_nil, List.isEmpty_nil, List.isEmpty_cons, mkVK, mkOK, mkCells, zeros_0, zeros_1, zeros_2, zeros_3, zeros_4, List.map_cons, List.map_nil]
    refine go_draw ?_
    simp only [go_nil, go_blk, go_skip, go_ret, go_exit, go_seq, go_block, go_reg, go_r0, go_r, go_d0, go_d, go_e0, go_e, box2, Option.isSome_some, Nat.le_refl, go_cond, go_o, go_g, aft_some, cnd_bool, grd_bool, grd_tup, brT_true, brT_false, brT_not, thr_exit, thr_c, thr_nil, stp, stepK, movK, mv1, ex, exv, exvs, upd_some, upd_none, ini, St.val, binK, binV, ofV, pickK, unK, unV, beqK, beq_true, beq_false, if_true, if_false, List.getElem?_cons_zero, List.getElem?_cons_succ, ↓reduceIte, Nat.reduceEqDiff, reduceCtorEq, loadK, adr, deref, Ad.fv, Ad.live, fadrK, List.length_cons, List.length_nil, List.drop_zero, List.drop_succ_cons, List.take_succ_cons, List.take_zero, Nat.reduceAdd, Nat.reduceLeDiff, Nat.zero_add, Nat.add_zero, aeqK, agEq, scEq, boxVK, newVK, exc, vc_agg, vc_int, vc_bool, vc_str, vc_ptr, vc_sl, vc_fn, boxOf, adInf, List.reverse_cons, List.reverse_nil, List.nil_append, List.cons_append, extK, Bool.and_true, Bool.true_and, Bool.not_true, Bool.not_false, resT, resVs, resV, true_and, and_true, storeK, spl_nil, spl_z, spl_1, spl_2, spl_3, spl_4, spl_5, spl_6, spl_7, spl_8, scal_int, scal_bool, scal_str, scal_nil, implies_true, Bool.and_self, Post_ret, Post_normal, PostS_ret, PostS_normal, retT_true, retT_false, flat_bool, flat_int, flat_str, List.take_length, decide_true, decide_false, Option.some.injEq, Value.bool.injEq, Value.int.injEq, Bool.false_and, Bool.and_false, not_false_eq_true, not_true_eq_false, toIntK, List.length_set, Nat.reduceMul, Bool.not_eq_true, Bool.not_eq_false, List.all_cons, List.all_nil, exps, fillL, buildK, strK, nilcK, fnK, callVT, List.size_toArray, List.append_nil, List.singleton_append, boxOK, newOK, scal_nil, List.isEmpty_nil, List.isEmpty_cons, mkVK, mkOK, mkCells, zeros_0, zeros_1, zeros_2, zeros_3, zeros_4, List.map_cons, List.map_nil, hset, hiab, hob, hrb, Int.reduceLT]
    refine ⟨by rfl, ?_⟩
    simp only [go_nil, go_blk, go_skip, go_ret, go_exit, go_seq, go_block, go_reg, go_r0, go_r, go_d0, go_d, go_e0, go_e, box2, Option.isSome_some, Nat.le_refl, go_cond, go_o, go_g, aft_some, cnd_bool, grd_bool, grd_tup, brT_true, brT_false, brT_not, thr_exit, thr_c, thr_nil, stp, stepK, movK, mv1, ex, exv, exvs, upd_some, upd_none, ini, St.val, binK, binV, ofV, pickK, unK, unV, beqK, beq_true, beq_false, if_true, if_false, List.getElem?_cons_zero, List.getElem?_cons_succ, ↓reduceIte, Nat.reduceEqDiff, reduceCtorEq, loadK, adr, deref, Ad.fv, Ad.live, fadrK, List.length_cons, List.length_nil, List.drop_zero, List.drop_succ_cons, List.take_succ_cons, List.take_zero, Nat.reduceAdd, Nat.reduceLeDiff, Nat.zero_add, Nat.add_zero, aeqK, agEq, scEq, boxVK, newVK, exc, vc_agg, vc_int, vc_bool, vc_str, vc_ptr, vc_sl, vc_fn, boxOf, adInf, List.reverse_cons, List.reverse_nil, List.nil_append, List.cons_append, extK, Bool.and_true, Bool.true_and, Bool.not_true, Bool.not_false, resT, resVs, resV, true_and, and_true, storeK, spl_nil, spl_z, spl_1, spl_2, spl_3, spl_4, spl_5, spl_6, spl_7, spl_8, scal_int, scal_bool, scal_str, scal_nil, implies_true, Bool.and_self, Post_ret, Post_normal, PostS_ret, PostS_normal, retT_true, retT_false, flat_bool, flat_int, flat_str, List.take_length, decide_true, decide_false, Option.some.injEq, Value.bool.injEq, Value.int.injEq, Bool.false_and, Bool.and_false, not_false_eq_true, not_true_eq_false, toIntK, List.length_set, Nat.reduceMul, Bool.not_eq_true, Bool.not_eq_false, List.all_cons, List.all_nil, exps, fillL, buildK, strK, nilcK, fnK, callVT, List.size_toArray, List.append_nil, List.singleton_append, boxOK, newOK, scal_nil, List.isEmpty_nil, List.isEmpty_cons, mkVK, mkOK, mkCells, zeros_0, zeros_1, zeros_2, zeros_3, zeros_4, List.map_cons, List.map_nil, hset, hw, List.set_set, wrap64 ((k : Int) + 1) (by omega) (by omega), hcut]
    exact ⟨_, rfl, (and255 _).1, (and255 _).2, done _ _ _ (by omega) rfl⟩
  · simp only [go_nil, go_blk, go_skip, go_ret, go_exit, go_seq, go_block, go_reg, go_r0, go_r, go_d0, go_d, go_e0, go_e, box2, Option.isSome_some, Nat.le_refl, go_cond, go_o, go_g, aft_some, cnd_bool, grd_bool, grd_tup, brT_true, brT_false, brT_not, thr_exit, thr_c, thr_nil, stp, stepK, movK, mv1, ex, exv, exvs, upd_some, upd_none, ini, St.val, binK, binV, ofV, pickK, unK, unV, beqK, beq_true, beq_false, if_true, if_false, List.getElem?_cons_zero, List.getElem?_cons_succ, ↓reduceIte, Nat.reduceEqDiff, reduceCtorEq, loadK, adr, deref, Ad.fv, Ad.live, fadrK, List.length_cons, List.length_nil, List.drop_zero, List.drop_succ_cons, List.take_succ_cons, List.take_zero, Nat.reduceAdd, Nat.reduceLeDiff, Nat.zero_add, Nat.add_zero, aeqK, agEq, scEq, boxVK, newVK, exc, vc_agg, vc_int, vc_bool, vc_str, vc_ptr, vc_sl, vc_fn, boxOf, adInf, List.reverse_cons, List.reverse_nil, List.nil_append, List.cons_append, extK, Bool.and_true, Bool.true_and, Bool.not_true, Bool.not_false, resT, resVs, resV, true_and, and_true, storeK, spl_nil, spl_z, spl_1, spl_2, spl_3, spl_4, spl_5, spl_6, spl_7, spl_8, scal_int, scal_bool, scal_str, scal_nil, implies_true, Bool.and_self, Post_ret, Post_normal, PostS_ret, PostS_normal, retT_true, retT_false, flat_bool, flat_int, flat_str, List.take_length, decide_true, decide_false, Option.some.injEq, Value.bool.injEq, Value.int.injEq, Bool.false_and, Bool.and_false, not_false_eq_true, not_true_eq_false, toIntK, List.length_set, Nat.reduceMul, Bool.not_eq_true, Bool.not_eq_false, List.all_cons, List.all_nil, exps, fillL, buildK, strK, nilcK, fnK, callVT, List.size_toArray, List.append_nil, List.singleton_append, boxOK, newOK, scal_nil, List.isEmpty_nil, List.isEmpty_cons, mkVK, mkOK, mkCells, zeros_0, zeros_1, zeros_2, zeros_3, zeros_4, List.map_cons, List.map_nil, hcut]
    exact ⟨_, rfl, (and255 _).1, (and255 _).2, done _ _ _ hi rfl⟩

/-- A number below another one. -/
def BelowR (H : Hp) (c : Value) (id : Nat) (n : Int) (r : Value) (H' : Hp) : Prop := ∃ x : Int, r = .int .i64 x ∧ 0 ≤ x ∧ (0 < n → x < n) ∧ (n ≤ 0 → x = 0) ∧ CS H H' c id
theorem f67 {m : Md} {H : Hp} {c : Value} {id : Nat} {n : Int} (hc : Cur H c id) (hw : m.wr id = true) : Fun EE m 67 [c, .int .i64 n] H fun r H' => BelowR H c id n r H' := by
  refine fun_t rfl rfl k67 (by simp [c67]) fun m' hm => ?_
  have hw : m'.wr id = true := (hm id).trans hw
  simp only [go_sem, ↓reduceIte, Nat.reduceEqDiff, reduceCtorEq, Nat.reduceAdd, Nat.reduceLeDiff, Nat.reduceMul, c67]
  refine brT.intro (fun q1 => ?_) (fun q1 => ?_) <;> simp only [go_sem, ↓reduceIte, Nat.reduceEqDiff, reduceCtorEq, Nat.reduceAdd, Nat.reduceLeDiff, Nat.reduceMul]
  · exact ⟨0, rfl, by omega, fun h => by have := of_decide_eq_true q1; omega, fun _ => rfl, hc, fun _ _ => rfl, rfl⟩
  have n0 : 0 < n := by have := of_decide_eq_false q1; omega
  have e3 : n ≠ 0 := by omega
  have fin : ∀ {x : Int} {H' : Hp}, 0 ≤ x → CS H H' c id → BelowR H c id n (.int .i64 (Int.tmod x n)) (H'.take H.length) := fun {x H'} hx h => ⟨_, rfl, Int.tmod_nonneg _ hx, fun _ => by rw [Int.tmod_eq_emod_of_nonneg hx]; exact Int.emod_lt_of_pos _ n0, fun h => by omega, h.cut⟩
  refine brT.intro (fun q2 => ?_) (fun q2 => ?_) <;> simp only [go_sem, ↓reduceIte, Nat.reduceEqDiff, reduceCtorEq, Nat.reduceAdd, Nat.reduceLeDiff, Nat.reduceMul]
  · refine callD (f70 hc hw) rfl fun r H1 ⟨x, e, hx0, hx1, hs⟩ => ?_
    subst e
    simp only [go_sem, ↓reduceIte, Nat.reduceEqDiff, reduceCtorEq, Nat.reduceAdd, Nat.reduceLeDiff, Nat.reduceMul, e3]
    exact fin hx0 hs
  refine callD (f70 hc hw) rfl fun r H1 ⟨x, e, hx0, hx1, hs1⟩ => ?_
  subst e
  simp only [go_sem, ↓reduceIte, Nat.reduceEqDiff, reduceCtorEq, Nat.reduceAdd, Nat.reduceLeDiff, Nat.reduceMul]
  refine callD (f70 hs1.1 hw) rfl fun r H2 ⟨y, e, hy0, hy1, hs2⟩ => ?_
  subst e
  simp only [go_sem, ↓reduceIte, Nat.reduceEqDiff, reduceCtorEq, Nat.reduceAdd, Nat.reduceLeDiff, Nat.reduceMul]
  refine callD (f70 hs2.1 hw) rfl fun r H3 ⟨z, e, hz0, hz1, hs3⟩ => ?_
  subst e
  simp only [go_sem, ↓reduceIte, Nat.reduceEqDiff, reduceCtorEq, Nat.reduceAdd, Nat.reduceLeDiff, Nat.reduceMul]
  refine callD (f70 hs3.1 hw) rfl fun r H4 ⟨u, e, hu0, hu1, hs4⟩ => ?_
  subst e
  have a1 := wrap64 (x * 16777216) (by omega) (by omega)
  have a2 := wrap64 (y * 65536) (by omega) (by omega)
  have a3 := wrap64 (x * 16777216 + y * 65536) (by omega) (by omega)
  have a4 := wrap64 (z * 256) (by omega) (by omega)
  have a5 := wrap64 (x * 16777216 + y * 65536 + z * 256) (by omega) (by omega)
  have a6 := wrap64 (x * 16777216 + y * 65536 + z * 256 + u) (by omega) (by omega)
  simp only [go_sem, ↓reduceIte, Nat.reduceEqDiff, reduceCtorEq, Nat.reduceAdd, Nat.reduceLeDiff, Nat.reduceMul, e3, a1, a2, a3, a4, a5, a6]
  exact fin (by omega) (((hs1.trans hs2).trans hs3).trans hs4)

theorem f69 {m : Md} {H : Hp} {c : Value} {id : Nat} {n : Int} (hc : Cur H c id) (hw : m.wr id = true) : Fun EE m 69 [c, .int .i64 n] H fun r H' => ∃ b : Bool, r = .bool b ∧ CS H H' c id := by
  refine fun_t rfl rfl k69 (by simp [c69]) fun m' hm => ?_
  have hw : m'.wr id = true := (hm id).trans hw
  simp only [go_sem, ↓reduceIte, Nat.reduceEqDiff, reduceCtorEq, Nat.reduceAdd, Nat.reduceLeDiff, Nat.reduceMul, c69]
  refine callD (f67 hc hw) rfl fun r H1 ⟨x, e, hx0, hx1, hx2, hs⟩ => ?_
  subst e
  simp only [go_sem, ↓reduceIte, Nat.reduceEqDiff, reduceCtorEq, Nat.reduceAdd, Nat.reduceLeDiff, Nat.reduceMul]
  exact ⟨_, rfl, hs.cut⟩

theorem f63 {m : Md} {H : Hp} {v : Value} {l : List Int} (hl : SlU H v l) : Fun EE m 63 [v] H fun r H' => Cur H' r H.length ∧ H <+: H' ∧ H'.length = H.length + 1 := by
  refine fun_f rfl rfl k63 (by simp [c63]) ?_
  have hroom := hl.room
  simp only [go_sem, ↓reduceIte, Nat.reduceEqDiff, reduceCtorEq, Nat.reduceAdd, Nat.reduceLeDiff, Nat.reduceMul, c63, hl.len]
  refine go_for 4000 (fun i s => s.H = H ∧ s.ρ 0 = .val v ∧ s.ρ 4 = .val (.int .i64 i) ∧ ∃ h : Int, s.ρ 3 = .val (.int .i64 h)) (fun s => s.H = H ∧ s.ρ 0 = .val v ∧ ∃ h : Int, s.ρ 3 = .val (.int .i64 h)) ?_ ?_ ?_
  · exact ⟨rfl, by simp [upd, ini], by simp [upd], _, by simp [upd]; rfl⟩
  · rintro i s hi ⟨hH, h0, h4, h, h3⟩
    simp only [go_sem, ↓reduceIte, Nat.reduceEqDiff, reduceCtorEq, Nat.reduceAdd, Nat.reduceLeDiff, Nat.reduceMul, h0, h3, h4, hl.len]
    refine brT.intro (fun c1 => ?_) (fun c1 => ?_) <;> simp only [go_sem, ↓reduceIte, Nat.reduceEqDiff, reduceCtorEq, Nat.reduceAdd, Nat.reduceLeDiff, Nat.reduceMul, c1, h0, h3, h4]
    · refine brT.intro (fun c2 => ?_) (fun c2 => ?_) <;> simp only [go_sem, ↓reduceIte, Nat.reduceEqDiff, reduceCtorEq, Nat.reduceAdd, Nat.reduceLeDiff, Nat.reduceMul, c1, c2, h0, h3, h4]
      · have hi2 : i < l.length := by have := of_decide_eq_true c1; omega
        have hi3 : i < 4000 := by have := of_decide_eq_true c2; omega
        obtain ⟨id, p, o, ho, hr, hia⟩ := hl.byte (List.getElem?_eq_getElem hi2)
        simp only [go_sem, ↓reduceIte, Nat.reduceEqDiff, reduceCtorEq, Nat.reduceAdd, Nat.reduceLeDiff, Nat.reduceMul, h0, h3, h4, hia, hH, ho, hr, wrap64 ((i : Int) + 1) (by omega) (by omega)]
        exact ⟨hi3, by simp, _, rfl⟩
      · exact ⟨hH, h, rfl⟩
    · exact ⟨hH, h, rfl⟩
  · rintro s ⟨hH, h0, h, h3⟩
    simp only [go_sem, ↓reduceIte, Nat.reduceEqDiff, reduceCtorEq, Nat.reduceAdd, Nat.reduceLeDiff, Nat.reduceMul, h0, h3, hH, hl.vc, exps, fillL, buildK]
    refine ⟨⟨rfl, v, 0, h, l, by simp, hl.pre (List.prefix_append _ _), by omega, hl.ids⟩, List.prefix_append _ _, by simp⟩

theorem f26 {H : Hp} {v : Value} {l : List Int} (hl : SlU H v l) : Scal EE 26 [v] H (.bool (decide ((l.length : Int) > 1048576))) := by
  refine scal_ok rfl rfl k26 (by simp [c26]) rfl fun m hw => ?_
  simp only [go_sem, ↓reduceIte, Nat.reduceEqDiff, reduceCtorEq, Nat.reduceAdd, Nat.reduceLeDiff, Nat.reduceMul, c26, hl.len]

theorem Sl.intD {H : Hp} {v : Value} {l : List Int} (h : Sl (En eI) 1 H v l) {i : Nat} {a : Int} (hi : l[i]? = some a) : ∃ id p o, H[id]? = some o ∧ o[p]? = some (.int .i64 a) ∧
    ∀ (s : St) (x y : X), exv s.ρ x = some v → exv s.ρ y = some (.int .i64 i) → iadrK s 1 x y = some (.val (.pointer (some ⟨id, p, some o.length⟩)), s) := by
  obtain ⟨id, p, o, ho, hr, hp, hia⟩ := h.elem hi
  unfold En at hr
  exact ⟨id, p, o, ho, by simpa [eI] using getElem?_of_take hr (j := 0) (by omega), hia⟩
theorem sl_ints {H : Hp} (l : List Int) (hl : l.length ≤ 9223372036854775807) : Sl (En eI) 1 (H ++ [l.map (Value.int .i64)]) (.slice (some ⟨H.length, 0, some 1⟩) l.length l.length) l :=
  .inr ⟨H.length, 0, l.length, l.map (Value.int .i64), rfl, by simp, by simp, by simp, hl, fun i a hi => by
    unfold En eI
    refine List.ext_getElem? fun j => ?_
    rw [take_drop_get]
    by_cases hj : j < 1
    · have : j = 0 := by omega
      subst this
      rw [if_pos hj, List.getElem?_map, show 0 + i * 1 + 0 = i by omega, hi]
      rfl
    · rw [if_neg hj, List.getElem?_eq_none (by simp; omega)]⟩
/-- One of some numbers. -/
theorem f66 {m : Md} {H : Hp} {c v : Value} {id : Nat} {l : List Int} (hc : Cur H c id) (hw : m.wr id = true) (hl : Sl (En eI) 1 H v l) (h0 : 0 < l.length) (hid : id ∉ idsOf v) : Fun EE m 66 [c, v] H fun r H' => ∃ x ∈ l, r = .int .i64 x ∧ CS H H' c id := by
  refine fun_t rfl rfl k66 (by simp [c66]) fun m' hm => ?_
  have hw : m'.wr id = true := (hm id).trans hw
  have hroom := hl.room
  simp only [go_sem, ↓reduceIte, Nat.reduceEqDiff, reduceCtorEq, Nat.reduceAdd, Nat.reduceLeDiff, Nat.reduceMul, c66, hl.len]
  refine callD (f67 hc hw) rfl fun r H1 ⟨x, e, hx0, hx1, hx2, hs⟩ => ?_
  subst e
  obtain ⟨k, rfl⟩ : ∃ k : Nat, x = k := ⟨x.toNat, by omega⟩
  have hk : k < l.length := by have := hx1 (by omega); omega
  obtain ⟨id2, p, o, ho, hr, hia⟩ := (hl.cs hs hid).intD (List.getElem?_eq_getElem hk)
  simp only [go_sem, ↓reduceIte, Nat.reduceEqDiff, reduceCtorEq, Nat.reduceAdd, Nat.reduceLeDiff, Nat.reduceMul, hia, ho, hr]
  exact ⟨_, List.getElem_mem hk, rfl, hs.cut⟩
end Go.Proofs.Ytfkecldlhngjhaa.Ev

/- The types of the laws' parameters: bytes. -/
namespace Go.Proofs.Ytfkecldlhngjhaa.Ev
set_option linter.all false
open Go
set_option maxRecDepth 100000
theorem bU : Bld Try.prog 5 1 (fun _ (n : Int) vs => vs = [.int .u8 n]) (fun n => (Lit.int .u8 n).wf = true) := Bld.int Try.underlying5 (by kernel_rfl)
theorem aBytes : ArgB Try.prog 36 (fun M (l : List Int) v => SlU M v l) (fun l => ∀ x ∈ l, (Lit.int .u8 x).wf = true) :=
  have h := ArgB.slice (t := 36) (e := 5) Try.underlying36 (by kernel_rfl) (bU.conv (R' := fun _ (n : Int) vs => En eU n vs) (fun n => n) (fun _ _ _ h => h) (fun _ h => h) (fun _ h => h))
  ⟨h.mono, fun a b J M r => by
    obtain ⟨J', M', u, z, a1, a2, a3, a4, a5⟩ := h.arg a b J M r
    exact ⟨J', M', u, z, a1, a2, a3, a4, a5.2⟩⟩
end Go.Proofs.Ytfkecldlhngjhaa.Ev

/- Clocks: what the law asks, plain. -/
namespace Go.Proofs.Ytfkecldlhngjhaa.Ev
set_option linter.all false
open Go
set_option maxRecDepth 4000

theorem rowT_in {c : List Int} {skew low : Int} : ∀ {k : Nat} {x : Int}, x ∈ rowT c skew low k → ∃ j : Nat, x = j ∧ j < k ∧ inA c skew low j = true
  | 0, x, h => by cases h
  | k + 1, x, h => by
    cases q : inA c skew low k with
    | true =>
      rw [rowT_t q, List.mem_append, List.mem_singleton] at h
      rcases h with h | h
      · obtain ⟨j, h1, h2, h3⟩ := rowT_in h
        exact ⟨j, h1, by omega, h3⟩
      · exact ⟨k, h, by omega, q⟩
    | false =>
      rw [rowT_f q] at h
      obtain ⟨j, h1, h2, h3⟩ := rowT_in h
      exact ⟨j, h1, by omega, h3⟩
theorem rowT_asc {c : List Int} {skew low : Int} : ∀ (k : Nat), (rowT c skew low k).Pairwise (· < ·)
  | 0 => .nil
  | k + 1 => by
    have ih := rowT_asc (c := c) (skew := skew) (low := low) k
    cases q : inA c skew low k with
    | true =>
      rw [rowT_t q, List.pairwise_append]
      refine ⟨ih, by simp, fun a ha b hb => ?_⟩
      rw [List.mem_singleton] at hb
      obtain ⟨j, h1, h2, h3⟩ := rowT_in ha
      omega
    | false => rw [rowT_f q]; exact ih
theorem bestT_is (c : List Int) (skew : Int) : ∀ i, (bestT c skew i).1 = [] ∨ ∃ low, (bestT c skew i).1 = rowT c skew low c.length
  | 0 => .inl rfl
  | i + 1 => by
    unfold bestT
    split
    · exact .inr ⟨_, rfl⟩
    · exact bestT_is c skew i
theorem bestT_max (c : List Int) (skew : Int) : ∀ i k, k < i → (rowT c skew (c.getD k 0) c.length).length ≤ (bestT c skew i).1.length
  | 0, k, h => by omega
  | i + 1, k, h => by
    have ih := bestT_max c skew i
    cases q : btr (rowT c skew (c.getD i 0) c.length) (bestT c skew i).1 (c.getD i 0) (bestT c skew i).2 with
    | true =>
      rw [bestT_t rfl q]
      have hge : (bestT c skew i).1.length ≤ (rowT c skew (c.getD i 0) c.length).length := by
        simp only [btr, Bool.or_eq_true, Bool.and_eq_true, decide_eq_true_eq] at q
        omega
      by_cases e : k = i
      · subst e; exact Nat.le_refl _
      · exact Nat.le_trans (ih k (by omega)) hge
    | false =>
      rw [bestT_f rfl q]
      by_cases e : k = i
      · subst e
        rw [btr, Bool.or_eq_false_iff] at q
        have := of_decide_eq_false q.1
        omega
      · exact ih k (by omega)
theorem row_pair {c : List Int} {skew low : Int} {A : List Int} (e : A = rowT c skew low c.length) {i j : Nat} (hj : j < i) (hi : i < A.length) : ∃ a b : Nat, A[i] = a ∧ A[j] = b ∧ b < a ∧ ∃ (ha : a < c.length) (hb : b < c.length), c[a] - c[b] ≤ skew ∧ c[b] - c[a] ≤ skew := by
  have hsub : ∀ x, x ∈ A → x ∈ rowT c skew low c.length := fun x hx => e ▸ hx
  obtain ⟨a, h1, h2, h3⟩ := rowT_in (hsub _ (List.getElem_mem hi))
  obtain ⟨b, g1, g2, g3⟩ := rowT_in (hsub _ (List.getElem_mem (show j < A.length by omega)))
  have hasc : A.Pairwise (· < ·) := e ▸ rowT_asc _
  have hlt := List.pairwise_iff_getElem.1 hasc j i (by omega) hi hj
  refine ⟨a, b, h1, g1, by omega, h2, g2, ?_⟩
  simp only [inA, getD_at h2, Bool.and_eq_true, decide_eq_true_eq] at h3
  simp only [inA, getD_at g2, Bool.and_eq_true, decide_eq_true_eq] at g3
  omega
/-- Those that agree rise and lie near each other. -/
theorem agr_pair {c : List Int} {skew : Int} {i j : Nat} (hj : j < i) (hi : i < (agrR c skew).length) : clOk c = true ∧ ∃ a b : Nat, (agrR c skew)[i] = a ∧ (agrR c skew)[j] = b ∧ b < a ∧ ∃ (ha : a < c.length) (hb : b < c.length), c[a] - c[b] ≤ skew ∧ c[b] - c[a] ≤ skew := by
  have hok : clOk c = true ∧ 0 ≤ skew := Classical.byContradiction fun h => by rw [agr_no h] at hi; cases hi
  have e : agrR c skew = (bestT c skew c.length).1 := by unfold agrR; rw [if_pos hok]
  refine ⟨hok.1, ?_⟩
  rcases bestT_is c skew c.length with h | ⟨low, h⟩
  · rw [e, h] at hi; cases hi
  · exact row_pair (e.trans h) hj hi
theorem agr_max {c : List Int} {skew : Int} {k : Nat} (h1 : clOk c = true) (h2 : 0 ≤ skew) (hk : k < c.length) : (rowT c skew c[k] c.length).length ≤ (agrR c skew).length := by
  unfold agrR
  rw [if_pos ⟨h1, h2⟩]
  have := bestT_max c skew c.length k hk
  rw [getD_at hk] at this
  exact this
theorem slwL_len {l : List Int} {i most : Int} (h : clOk l = true) : (slwL l i most).length = l.length := by
  unfold slwL
  rw [if_pos h]
  split <;> simp
theorem slwL_get {l : List Int} {i most : Int} (h : clOk l = true) {k : Nat} (hk : k < l.length) : ∃ y, (slwL l i most)[k]? = some y ∧ (l[k] > 0 → 0 ≤ y ∧ y ≤ l[k]) ∧ (l[k] < 0 → y ≤ 0 ∧ l[k] ≤ y) ∧ (¬ (k : Int) = i → y = l[k]) ∧ -1000 ≤ y ∧ y ≤ 1000 := by
  have hb := cl_at h hk
  by_cases q : 0 ≤ i ∧ i < l.length ∧ 0 ≤ most
  · obtain ⟨n, rfl⟩ : ∃ n : Nat, i = n := ⟨i.toNat, by omega⟩
    have hn : n < l.length := by omega
    rw [slwL_at h hn q.2.2]
    by_cases e : n = k
    · subst e
      refine ⟨slw l[n] most, by rw [List.getElem?_set_self hn], ?_⟩
      have := q.2.2
      unfold slw
      split
      · omega
      · split <;> omega
    · refine ⟨l[k], by rw [List.getElem?_set_ne e, List.getElem?_eq_getElem hk], by omega, by omega, fun _ => rfl, hb⟩
  · rw [slwL_same h q]
    exact ⟨l[k], List.getElem?_eq_getElem hk, by omega, by omega, fun _ => rfl, hb⟩
theorem slwL_ok {l : List Int} {i most : Int} (h : clOk l = true) : clOk (slwL l i most) = true := by
  refine cl_t.2 ⟨fun n hn => ?_, by rw [slwL_len h]; exact cl_len h⟩
  obtain ⟨k, hk, e⟩ := List.mem_iff_getElem.1 hn
  have hkl : k < l.length := by rw [slwL_len h] at hk; exact hk
  obtain ⟨y, h1, _, _, _, h5⟩ := slwL_get (i := i) (most := most) h hkl
  rw [List.getElem?_eq_getElem hk, e] at h1
  cases h1
  exact h5
/-- By 1000: all of it. -/
theorem slwL_all {l : List Int} {k : Nat} (h : clOk l = true) (hk : k < l.length) : slwL l k 1000 = l.set k 0 := by
  rw [slwL_at h hk (by omega)]
  have := cl_at h hk
  unfold slw
  rw [if_neg (by omega), if_neg (by omega)]
theorem spr_zero {l : List Int} (h : ∀ k, (hk : k < l.length) → l[k] = 0) : sprR l = 0 := by
  have hz : ∀ i, i ≤ l.length → hiT l i = 0 ∧ loT l i = 0 := fun i => by
    induction i with
    | zero =>
      intro _
      cases l with
      | nil => exact ⟨rfl, rfl⟩
      | cons a t =>
        have := h 0 (by simp)
        simp at this
        subst this
        exact ⟨rfl, rfl⟩
    | succ i ih =>
      intro hi
      have := ih (by omega)
      rw [hiT_succ (by omega), loT_succ (by omega), this.1, this.2, h i (by omega)]
      decide
  unfold sprR
  have := hz l.length (Nat.le_refl _)
  rw [this.1, this.2]
  split <;> rfl
end Go.Proofs.Ytfkecldlhngjhaa.Ev

/- Draws of clocks. -/
namespace Go.Proofs.Ytfkecldlhngjhaa.Ev
set_option linter.all false
open Go
set_option maxRecDepth 4000

theorem zeros_6 (z : List Value) : zeros 6 z = z ++ (z ++ (z ++ (z ++ (z ++ z)))) := by simp [zeros, List.replicate_succ]
theorem zeros_7 (z : List Value) : zeros 7 z = z ++ (z ++ (z ++ (z ++ (z ++ (z ++ z))))) := by simp [zeros, List.replicate_succ]
def ClD (H : Hp) (c : Value) (id : Nat) (r : Value) (H' : Hp) : Prop := ∃ l : List Int, SlI H' r l ∧ OwnS H.length r ∧ CX H H' c id ∧ l.length ≤ 9
theorem f68 {m : Md} {H : Hp} {c : Value} {id : Nat} (hc : Cur H c id) (hw0 : Wr m H) (hw : m.wr id = true) : Fun EE m 68 [c] H fun r H' => ClD H c id r H' := by
  refine fun_f rfl rfl k68 (by simp [c68]) ?_
  have hid := hc.lt
  have p0 : H <+: H ++ [[]] := List.prefix_append _ _
  have s0 := own_newI (H := H)
  have o0 : OwnS H.length (.slice (some ⟨H.length, 0, some 1⟩) 0 (0 * 1)) := .inr ⟨_, _, _, _, rfl, Nat.le_refl _⟩
  generalize hwv : Value.slice (some ⟨H.length, 0, some 1⟩) 0 (0 * 1) = wv0 at s0 o0
  have c0 := CX.ofPre hc p0
  simp only [go_sem, ↓reduceIte, Nat.reduceEqDiff, reduceCtorEq, Nat.reduceAdd, Nat.reduceLeDiff, Nat.reduceMul, c68, fillL, hwv]
  refine callD (f67 c0.1 hw) rfl fun r H1 ⟨n0, e, y0, y1, _, cs1⟩ => ?_
  subst e
  obtain ⟨n, rfl⟩ : ∃ n : Nat, n0 = n := ⟨n0.toNat, by omega⟩
  have y1 := y1 (by omega)
  have c1 := c0.trans cs1.cx
  have s1 := s0.cs cs1 (own_notin o0 hid)
  simp only [go_sem, ↓reduceIte, Nat.reduceEqDiff, reduceCtorEq, Nat.reduceAdd, Nat.reduceLeDiff, Nat.reduceMul]
  refine go_loop (fun n t => t.ρ 0 = .val c ∧ t.ρ 4 = .val (.int .i64 n) ∧ CX H t.H c id ∧ ∃ wv l, t.ρ 3 = .val wv ∧ SlI t.H wv l ∧ OwnS H.length wv ∧ l.length + n ≤ 8)
    (fun t => t.ρ 0 = .val c ∧ CX H t.H c id ∧ ∃ wv l, t.ρ 3 = .val wv ∧ SlI t.H wv l ∧ OwnS H.length wv ∧ l.length ≤ 8) n ?_ ?_ ?_
  · exact ⟨by simp [upd, ini], by simp [upd], c1, wv0, [], by simp [upd], s1, o0, by simp; omega⟩
  · rintro n t ⟨t0, t4, tc, wv, l, t3, ts, to, tl⟩
    simp only [go_sem, ↓reduceIte, Nat.reduceEqDiff, reduceCtorEq, Nat.reduceAdd, Nat.reduceLeDiff, Nat.reduceMul, t0, t3, t4]
    cases qn : decide ((n : Int) > 0) <;> simp only [go_sem, ↓reduceIte, Nat.reduceEqDiff, reduceCtorEq, Nat.reduceAdd, Nat.reduceLeDiff, Nat.reduceMul, t0, t3, t4, qn]
    · exact ⟨tc, wv, l, rfl, ts, to, by omega⟩
    have hn : 0 < n := by have := of_decide_eq_true qn; omega
    have wn : IntKind.i64.wrap ((n : Int) - 1) = ((n - 1 : Nat) : Int) := by rw [wrap64 _ (by omega) (by omega)]; omega
    refine callD (f67 tc.1 hw) rfl fun r H2 ⟨x, e, x0, x1, _, cs2⟩ => ?_
    subst e
    have x1 := x1 (by omega)
    have c2 := tc.trans cs2.cx
    have n2 := c2.2.2
    have s2 := ts.cs cs2 (own_notin to hid)
    have wx := wrap64 (x - 15) (by omega) (by omega)
    obtain ⟨v5, H5, e1, e2, e3, e4, e5, e6, e7⟩ := s2.oneI (m := m) (x - 15) to n2 hw0 (by omega)
    simp only [go_sem, ↓reduceIte, Nat.reduceEqDiff, reduceCtorEq, Nat.reduceAdd, Nat.reduceLeDiff, Nat.reduceMul, t0, t3, t4, wx]
    rw [e1]
    rotate_left
    · rfl
    · rfl
    · rfl
    simp only [go_sem, ↓reduceIte, Nat.reduceEqDiff, reduceCtorEq, Nat.reduceAdd, Nat.reduceLeDiff, Nat.reduceMul, t0, t3, t4, wn]
    exact ⟨n - 1, by omega, rfl, c2.own hid (fun j hj => e4 j (by omega) (own_notin to hj)) e5, v5, _, rfl, e2, e3, by simp; omega⟩
  · rintro t ⟨t0, tc, wv, l, t3, ts, to, tl⟩
    have nt := tc.2.2
    simp only [go_sem, ↓reduceIte, Nat.reduceEqDiff, reduceCtorEq, Nat.reduceAdd, Nat.reduceLeDiff, Nat.reduceMul, t0, t3]
    refine callD (f69 tc.1 hw) rfl fun r H2 ⟨bb, e, cs2⟩ => ?_
    subst e
    have c2 := tc.trans cs2.cx
    have s2 := ts.cs cs2 (own_notin to hid)
    have n2 := c2.2.2
    simp only [go_sem, ↓reduceIte, Nat.reduceEqDiff, reduceCtorEq, Nat.reduceAdd, Nat.reduceLeDiff, Nat.reduceMul, t0, t3]
    cases bb with
    | false =>
      simp only [go_sem, ↓reduceIte, Nat.reduceEqDiff, reduceCtorEq, Nat.reduceAdd, Nat.reduceLeDiff, Nat.reduceMul, t3]
      exact ⟨l, s2, to, c2, by omega⟩
    | true =>
      have hl := sl_ints (H := H2) [1000, 1001, -1001] (by simp)
      have pn := List.prefix_append H2 [[(1000 : Int), 1001, -1001].map (Value.int .i64)]
      have cn := c2.trans (CX.ofPre c2.1 pn)
      have sn := s2.pre pn
      simp only [go_sem, ↓reduceIte, Nat.reduceEqDiff, reduceCtorEq, Nat.reduceAdd, Nat.reduceLeDiff, Nat.reduceMul, t0, t3, fillL, zeros_3]
      refine callD (f66 cn.1 hw hl (by simp) (by simp [idsOf]; omega)) rfl fun r H3 ⟨x, _, e, cs3⟩ => ?_
      subst e
      have c3 := cn.trans cs3.cx
      have n3 := c3.2.2
      have s3 := sn.cs cs3 (own_notin to hid)
      obtain ⟨v5, H5, e1, e2, e3, e4, e5, e6, e7⟩ := s3.oneI (m := m) x to n3 hw0 (by omega)
      simp only [go_sem, ↓reduceIte, Nat.reduceEqDiff, reduceCtorEq, Nat.reduceAdd, Nat.reduceLeDiff, Nat.reduceMul, t0, t3]
      rw [e1]
      rotate_left
      · rfl
      · rfl
      · rfl
      simp only [go_sem, ↓reduceIte, Nat.reduceEqDiff, reduceCtorEq, Nat.reduceAdd, Nat.reduceLeDiff, Nat.reduceMul, t3]
      exact ⟨_, e2, e3, c3.own hid (fun j hj => e4 j (by omega) (own_notin to hj)) e5, by simp; omega⟩
theorem f48 {m : Md} {H : Hp} {v : Value} {cl : List Int} (hv : SlU H v cl) (hw : Wr m H) : Fun EE m 48 [v] H fun r H' => ∃ u l k, r = .tuple #[u, .int .i64 k] ∧ H <+: H' ∧ SlI H' u l ∧ l.length ≤ 9 ∧ -1 ≤ k ∧ k ≤ 40 := by
  refine fun_f rfl rfl k48 (by simp [c48]) ?_
  have wid := hw H.length (Nat.le_refl _)
  simp only [go_sem, ↓reduceIte, Nat.reduceEqDiff, reduceCtorEq, Nat.reduceAdd, Nat.reduceLeDiff, Nat.reduceMul, c48]
  refine callD (f63 hv) rfl fun r H1 ⟨c1, p1, n1⟩ => ?_
  have p1 : H <+: H1 := p1
  have hlt := c1.lt
  have hl := sl_ints (H := H1) [0, 1, 3, 8, 40, -1] (by simp)
  have pn := List.prefix_append H1 [[(0 : Int), 1, 3, 8, 40, -1].map (Value.int .i64)]
  have cn := CX.ofPre c1 pn
  simp only [go_sem, ↓reduceIte, Nat.reduceEqDiff, reduceCtorEq, Nat.reduceAdd, Nat.reduceLeDiff, Nat.reduceMul, fillL, zeros_6]
  refine callD (f66 cn.1 wid hl (by simp) (by simp [idsOf]; omega)) rfl fun r4 H4 ⟨x, hx, e, cs4⟩ => ?_
  subst e
  have c4 := cn.trans cs4.cx
  have n4 := c4.2.2
  have n1' := p1.length_le
  have hxb : -1 ≤ x ∧ x ≤ 40 := by simp at hx; omega
  simp only [go_sem, ↓reduceIte, Nat.reduceEqDiff, reduceCtorEq, Nat.reduceAdd, Nat.reduceLeDiff, Nat.reduceMul]
  refine callD (f68 c4.1 (fun i hi => hw i (by omega)) wid) rfl fun u H5 ⟨l, s5, o5, c5, hl5⟩ => ?_
  (try simp only [go_sem, ↓reduceIte, Nat.reduceEqDiff, reduceCtorEq, Nat.reduceAdd, Nat.reduceLeDiff, Nat.reduceMul, s5.vc])
  exact ⟨u, l, x, rfl, (c4.trans c5).pre p1 (Nat.le_refl _), s5, hl5, hxb⟩
theorem f49 {m : Md} {H : Hp} {v : Value} {cl : List Int} (hv : SlU H v cl) (hw : Wr m H) : Fun EE m 49 [v] H fun r H' => ∃ u l i k, r = .tuple #[u, .int .i64 i, .int .i64 k] ∧ H <+: H' ∧ SlI H' u l ∧ l.length ≤ 9 ∧ -1 ≤ i ∧ i ≤ 8 ∧ -1 ≤ k ∧ k ≤ 9223372036854775807 := by
  refine fun_f rfl rfl k49 (by simp [c49]) ?_
  have wid := hw H.length (Nat.le_refl _)
  simp only [go_sem, ↓reduceIte, Nat.reduceEqDiff, reduceCtorEq, Nat.reduceAdd, Nat.reduceLeDiff, Nat.reduceMul, c49]
  refine callD (f63 hv) rfl fun r H1 ⟨c1, p1, n1⟩ => ?_
  have p1 : H <+: H1 := p1
  simp only [go_sem, ↓reduceIte, Nat.reduceEqDiff, reduceCtorEq, Nat.reduceAdd, Nat.reduceLeDiff, Nat.reduceMul]
  refine callD (f67 c1 wid) rfl fun r2 H2 ⟨i, e, i0, i1, _, cs2⟩ => ?_
  subst e
  have i1 := i1 (by omega)
  have wi := wrap64 (i - 1) (by omega) (by omega)
  have n2 : H2.length = H1.length := cs2.2.2
  have hlt := c1.lt
  have hl := sl_ints (H := H2) [0, 1, 5, 100, -1, 9223372036854775807] (by simp)
  have pn := List.prefix_append H2 [[(0 : Int), 1, 5, 100, -1, 9223372036854775807].map (Value.int .i64)]
  have cn := cs2.cx.trans (CX.ofPre cs2.1 pn)
  simp only [go_sem, ↓reduceIte, Nat.reduceEqDiff, reduceCtorEq, Nat.reduceAdd, Nat.reduceLeDiff, Nat.reduceMul, fillL, zeros_6, wi]
  refine callD (f66 cn.1 wid hl (by simp) (by simp [idsOf]; omega)) rfl fun r4 H4 ⟨x, hx, e, cs4⟩ => ?_
  subst e
  have c4 := cn.trans cs4.cx
  have n4 := c4.2.2
  have n1' := p1.length_le
  have hxb : -1 ≤ x ∧ x ≤ 9223372036854775807 := by simp at hx; omega
  simp only [go_sem, ↓reduceIte, Nat.reduceEqDiff, reduceCtorEq, Nat.reduceAdd, Nat.reduceLeDiff, Nat.reduceMul]
  refine callD (f68 c4.1 (fun i hi => hw i (by omega)) wid) rfl fun u H5 ⟨l, s5, o5, c5, hl5⟩ => ?_
  (try simp only [go_sem, ↓reduceIte, Nat.reduceEqDiff, reduceCtorEq, Nat.reduceAdd, Nat.reduceLeDiff, Nat.reduceMul, s5.vc])
  exact ⟨u, l, i - 1, x, rfl, (c4.trans c5).pre p1 (Nat.le_refl _), s5, hl5, by omega, by omega, hxb⟩
theorem f50 {m : Md} {H : Hp} {v : Value} {cl : List Int} (hv : SlU H v cl) (hw : Wr m H) : Fun EE m 50 [v] H fun r H' => ∃ u l i k, r = .tuple #[u, .int .i64 i, .int .i64 k] ∧ H <+: H' ∧ SlI H' u l := by
  refine fun_f rfl rfl k50 (by simp [c50]) ?_
  have wid := hw H.length (Nat.le_refl _)
  simp only [go_sem, ↓reduceIte, Nat.reduceEqDiff, reduceCtorEq, Nat.reduceAdd, Nat.reduceLeDiff, Nat.reduceMul, c50]
  refine callD (f63 hv) rfl fun r H1 ⟨c1, p1, n1⟩ => ?_
  have p1 : H <+: H1 := p1
  simp only [go_sem, ↓reduceIte, Nat.reduceEqDiff, reduceCtorEq, Nat.reduceAdd, Nat.reduceLeDiff, Nat.reduceMul]
  refine callD (f67 c1 wid) rfl fun r2 H2 ⟨i, e, i0, i1, _, cs2⟩ => ?_
  subst e
  have i1 := i1 (by omega)
  have wi := wrap64 (i - 1) (by omega) (by omega)
  have n2 : H2.length = H1.length := cs2.2.2
  have hlt := c1.lt
  have hl := sl_ints (H := H2) [0, 3, 10, 50, -1, 100000, 100001] (by simp)
  have pn := List.prefix_append H2 [[(0 : Int), 3, 10, 50, -1, 100000, 100001].map (Value.int .i64)]
  have cn := cs2.cx.trans (CX.ofPre cs2.1 pn)
  simp only [go_sem, ↓reduceIte, Nat.reduceEqDiff, reduceCtorEq, Nat.reduceAdd, Nat.reduceLeDiff, Nat.reduceMul, fillL, zeros_7, wi]
  refine callD (f66 cn.1 wid hl (by simp) (by simp [idsOf]; omega)) rfl fun r4 H4 ⟨x, hx, e, cs4⟩ => ?_
  subst e
  have c4 := cn.trans cs4.cx
  have n4 := c4.2.2
  have n1' := p1.length_le
  simp only [go_sem, ↓reduceIte, Nat.reduceEqDiff, reduceCtorEq, Nat.reduceAdd, Nat.reduceLeDiff, Nat.reduceMul]
  refine callD (f68 c4.1 (fun i hi => hw i (by omega)) wid) rfl fun u H5 ⟨l, s5, o5, c5, hl5⟩ => ?_
  (try simp only [go_sem, ↓reduceIte, Nat.reduceEqDiff, reduceCtorEq, Nat.reduceAdd, Nat.reduceLeDiff, Nat.reduceMul, s5.vc])
  exact ⟨u, l, i - 1, x, rfl, (c4.trans c5).pre p1 (Nat.le_refl _), s5⟩
end Go.Proofs.Ytfkecldlhngjhaa.Ev

/- The law Clocks. -/
namespace Go.Proofs.Ytfkecldlhngjhaa.Ev
set_option linter.all false
open Go
set_option maxRecDepth 4000

theorem law14 {m : Md} {H : Hp} {v : Value} {cl : List Int} (hv : SlU H v cl) (hw : Wr m H) : Fun EE m 14 [v] H fun r _ => r = .bool true := by
  refine fun_f rfl rfl k14 (by simp [c14]) ?_
  have a26 := fun {m draw s d ts Q} => callT_at (m := m) (draw := draw) (s := s) (d := d) (ts := ts) (Q := Q) (f26 hv)
  simp only [go_sem, ↓reduceIte, Nat.reduceEqDiff, reduceCtorEq, Nat.reduceAdd, Nat.reduceLeDiff, Nat.reduceMul, c14, a26, hw]
  refine brT.intro (fun q0 => ?_) (fun q0 => ?_) <;> simp only [go_sem, ↓reduceIte, Nat.reduceEqDiff, reduceCtorEq, Nat.reduceAdd, Nat.reduceLeDiff, Nat.reduceMul]
  refine callT_to (fun m' h => f48 hv h) rfl hw fun r1 H1 ⟨u, l, skew, e, p1, s1, hl1, hk0, hk1⟩ => ?_
  subst e
  have p1 : H <+: H1 := p1
  have w1 := hw.pre p1
  simp only [go_sem, ↓reduceIte, Nat.reduceEqDiff, reduceCtorEq, Nat.reduceAdd, Nat.reduceLeDiff, Nat.reduceMul, List.getElem?_toArray, ofV]
  refine callT_to (fun m' h => f40 (skew := skew) s1 h) rfl w1 fun x H2 ⟨p2, s2, o2⟩ => ?_
  have p2 : H1 <+: H2 := p2
  have w2 := w1.pre p2
  have l2 := s1.pre p2
  simp only [go_sem, ↓reduceIte, Nat.reduceEqDiff, reduceCtorEq, Nat.reduceAdd, Nat.reduceLeDiff, Nat.reduceMul]
  refine callT_to (fun m' h => f39 (skew := skew) l2 h) rfl w2 fun y H3 ⟨p3, s3, o3⟩ => ?_
  have p3 : H2 <+: H3 := p3
  have w3 := w2.pre p3
  have l3 := l2.pre p3
  have A3 := s2.pre p3
  have v3 := hv.pre (p1.trans (p2.trans p3))
  have dl : ∀ l : List Int, decide (l = l) = true := fun l => by simp
  have d1 : ∀ n : Int, decide (n = n) = true := fun n => by simp
  have a46 := fun {m draw s d ts Q} => callT_at (m := m) (draw := draw) (s := s) (d := d) (ts := ts) (Q := Q) (f46 A3 s3)
  rw [dl] at a46
  simp only [go_sem, ↓reduceIte, Nat.reduceEqDiff, reduceCtorEq, Nat.reduceAdd, Nat.reduceLeDiff, Nat.reduceMul, a46, w3]
  have hAr := A3.room
  have hlr := l3.room
  refine go_for (agrR l skew).length (fun i s => s.H = H3 ∧ s.ρ 0 = .val v ∧ s.ρ 3 = .val u ∧ s.ρ 4 = .val (.int .i64 skew) ∧ s.ρ 5 = .val x ∧ s.ρ 6 = .val (.int .i64 i))
    (fun s => s.H = H3 ∧ s.ρ 0 = .val v ∧ s.ρ 3 = .val u ∧ s.ρ 4 = .val (.int .i64 skew) ∧ s.ρ 5 = .val x) (by simp [upd, ini]) ?_ ?_
  · rintro i s hi ⟨hH, k0, k3, k4, k5, k6⟩
    simp only [go_sem, ↓reduceIte, Nat.reduceEqDiff, reduceCtorEq, Nat.reduceAdd, Nat.reduceLeDiff, Nat.reduceMul, k0, k3, k4, k5, k6, A3.len]
    cases c1 : decide ((i : Int) < ((agrR l skew).length : Int)) <;> simp only [go_sem, ↓reduceIte, Nat.reduceEqDiff, reduceCtorEq, Nat.reduceAdd, Nat.reduceLeDiff, Nat.reduceMul, k0, k3, k4, k5, k6, c1]
    · exact hH
    have hil : i < (agrR l skew).length := by have := of_decide_eq_true c1; omega
    have wi := wrap64 ((i : Int) + 1) (by omega) (by omega)
    refine go_for i (fun j t => t.H = H3 ∧ t.ρ 0 = .val v ∧ t.ρ 3 = .val u ∧ t.ρ 4 = .val (.int .i64 skew) ∧ t.ρ 5 = .val x ∧ t.ρ 6 = .val (.int .i64 i) ∧ t.ρ 7 = .val (.int .i64 j))
      (fun t => t.H = H3 ∧ t.ρ 0 = .val v ∧ t.ρ 3 = .val u ∧ t.ρ 4 = .val (.int .i64 skew) ∧ t.ρ 5 = .val x ∧ t.ρ 6 = .val (.int .i64 i)) ?_ ?_ ?_
    · exact ⟨hH, by simp [upd, k0], by simp [upd, k3], by simp [upd, k4], by simp [upd, k5], by simp [upd, k6], by simp [upd]⟩
    · clear k0 k3 k4 k5 k6
      rintro j t hj ⟨tH, k0, k3, k4, k5, k6, k7⟩
      simp only [go_sem, ↓reduceIte, Nat.reduceEqDiff, reduceCtorEq, Nat.reduceAdd, Nat.reduceLeDiff, Nat.reduceMul, k0, k3, k4, k5, k6, k7]
      cases c2 : decide ((j : Int) < (i : Int)) <;> simp only [go_sem, ↓reduceIte, Nat.reduceEqDiff, reduceCtorEq, Nat.reduceAdd, Nat.reduceLeDiff, Nat.reduceMul, k0, k3, k4, k5, k6, k7, c2]
      · exact tH
      have hji : j < i := by have := of_decide_eq_true c2; omega
      have wj := wrap64 ((j : Int) + 1) (by omega) (by omega)
      obtain ⟨hok, a, b, ea, eb, hba, ha, hb, hab1, hab2⟩ := agr_pair hji hil
      have ca := cl_at hok ha
      have cb := cl_at hok hb
      obtain ⟨ia, qa, oa, hoa, hra, hiaa⟩ := A3.int (List.getElem?_eq_getElem hil)
      obtain ⟨ib, qb, ob, hob, hrb, hiab⟩ := A3.int (List.getElem?_eq_getElem (show j < (agrR l skew).length by omega))
      rw [ea] at hra
      rw [eb] at hrb
      obtain ⟨ic, qc, oc, hoc, hrc, hiac⟩ := l3.int (List.getElem?_eq_getElem ha)
      obtain ⟨id, qd, od, hod, hrd, hiad⟩ := l3.int (List.getElem?_eq_getElem hb)
      have wd := wrap64 (l[a] - l[b]) (by omega) (by omega)
      have wn := wrap64 (-(l[a] - l[b])) (by omega) (by omega)
      have wz : IntKind.i64.wrap (0 - (l[a] - l[b])) = -(l[a] - l[b]) := by rw [Int.zero_sub]; exact wn
      have e1 : decide ((b : Int) ≥ (a : Int)) = false := decide_eq_false (by omega)
      have e2 : decide (l[a] - l[b] > skew) = false := decide_eq_false (by omega)
      have e3 : decide (-(l[a] - l[b]) > skew) = false := decide_eq_false (by omega)
      refine go_draw ?_
      simp only [go_sem, ↓reduceIte, Nat.reduceEqDiff, reduceCtorEq, Nat.reduceAdd, Nat.reduceLeDiff, Nat.reduceMul, k0, k3, k4, k5, k6, k7, tH, hiaa, hiab, hiac, hiad, hoa, hob, hoc, hod, hra, hrb, hrc, hrd, wd]
      refine ⟨by rfl, ?_⟩
      refine go_draw ?_
      simp only [go_sem, ↓reduceIte, Nat.reduceEqDiff, reduceCtorEq, Nat.reduceAdd, Nat.reduceLeDiff, Nat.reduceMul, k0, k3, k4, k5, k6, k7, tH, hiaa, hiab, hoa, hob, hra, hrb, e1, e2, wn, wz, e3]
      refine ⟨by rfl, ?_⟩
      simp only [go_sem, ↓reduceIte, Nat.reduceEqDiff, reduceCtorEq, Nat.reduceAdd, Nat.reduceLeDiff, Nat.reduceMul, k0, k3, k4, k5, k6, k7, tH, e3, wj]
      exact ⟨hji, by simp⟩
    · clear k0 k3 k4 k5 k6
      rintro t ⟨tH, k0, k3, k4, k5, k6⟩
      simp only [go_sem, ↓reduceIte, Nat.reduceEqDiff, reduceCtorEq, Nat.reduceAdd, Nat.reduceLeDiff, Nat.reduceMul, k0, k3, k4, k5, k6, wi, tH]
      exact ⟨hil, by simp⟩
  rintro s ⟨hH, k0, k3, k4, k5⟩
  have a15 := fun {m draw s d ts Q} => callT_at (m := m) (draw := draw) (s := s) (d := d) (ts := ts) (Q := Q) (f15 l3)
  simp only [go_sem, ↓reduceIte, Nat.reduceEqDiff, reduceCtorEq, Nat.reduceAdd, Nat.reduceLeDiff, Nat.reduceMul, k0, k3, k4, k5]
  refine go_for l.length (fun i s => s.H = H3 ∧ s.ρ 0 = .val v ∧ s.ρ 3 = .val u ∧ s.ρ 4 = .val (.int .i64 skew) ∧ s.ρ 5 = .val x ∧ s.ρ 9 = .val (.int .i64 i))
    (fun s => s.H = H3 ∧ s.ρ 0 = .val v) (by simp [upd, k0, k3, k4, k5, hH]) ?_ ?_
  · clear k0 k3 k4 k5 hH
    rintro i s hi ⟨hH, k0, k3, k4, k5, k9⟩
    simp only [go_sem, ↓reduceIte, Nat.reduceEqDiff, reduceCtorEq, Nat.reduceAdd, Nat.reduceLeDiff, Nat.reduceMul, k0, k3, k4, k5, k9, l3.len]
    cases c1 : decide ((i : Int) < (l.length : Int)) <;> simp only [go_sem, ↓reduceIte, Nat.reduceEqDiff, reduceCtorEq, Nat.reduceAdd, Nat.reduceLeDiff, Nat.reduceMul, k0, k3, k4, k5, k9, c1, a15, w3, hH]
    have hil : i < l.length := by have := of_decide_eq_true c1; omega
    have wi := wrap64 ((i : Int) + 1) (by omega) (by omega)
    cases hok : clOk l <;> simp only [go_sem, ↓reduceIte, Nat.reduceEqDiff, reduceCtorEq, Nat.reduceAdd, Nat.reduceLeDiff, Nat.reduceMul, k0, k3, k4, k5, k9, hok, hH]
    cases c2 : decide (skew ≥ 0) <;> simp only [go_sem, ↓reduceIte, Nat.reduceEqDiff, reduceCtorEq, Nat.reduceAdd, Nat.reduceLeDiff, Nat.reduceMul, k0, k3, k4, k5, k9, c2, hH]
    have hsk := of_decide_eq_true c2
    refine go_for l.length (fun j t => t.H = H3 ∧ t.ρ 0 = .val v ∧ t.ρ 3 = .val u ∧ t.ρ 4 = .val (.int .i64 skew) ∧ t.ρ 5 = .val x ∧ t.ρ 9 = .val (.int .i64 i) ∧ t.ρ 10 = .val (.int .i64 ((rowT l skew l[i] j).length : Int)) ∧ t.ρ 11 = .val (.int .i64 j))
      (fun t => t.H = H3 ∧ t.ρ 0 = .val v ∧ t.ρ 3 = .val u ∧ t.ρ 4 = .val (.int .i64 skew) ∧ t.ρ 5 = .val x ∧ t.ρ 9 = .val (.int .i64 i) ∧ t.ρ 10 = .val (.int .i64 ((rowT l skew l[i] l.length).length : Int))) ?_ ?_ ?_
    · exact ⟨by first | exact hH | rfl, by simp [upd, k0], by simp [upd, k3], by simp [upd, k4], by simp [upd, k5], by simp [upd, k9], by simp [upd, rowT], by simp [upd]⟩
    · clear k0 k3 k4 k5 k9
      rintro j t hj ⟨tH, k0, k3, k4, k5, k9, k10, k11⟩
      simp only [go_sem, ↓reduceIte, Nat.reduceEqDiff, reduceCtorEq, Nat.reduceAdd, Nat.reduceLeDiff, Nat.reduceMul, k0, k3, k4, k5, k9, k10, k11, l3.len]
      cases d1' : decide ((j : Int) < (l.length : Int)) <;> simp only [go_sem, ↓reduceIte, Nat.reduceEqDiff, reduceCtorEq, Nat.reduceAdd, Nat.reduceLeDiff, Nat.reduceMul, k0, k3, k4, k5, k9, k10, k11, d1']
      · have : j = l.length := by have := of_decide_eq_false d1'; omega
        subst this
        exact ⟨tH, by simp⟩
      have hjl : j < l.length := by have := of_decide_eq_true d1'; omega
      have wj := wrap64 ((j : Int) + 1) (by omega) (by omega)
      have hci := cl_at hok hil
      have hcj := cl_at hok hjl
      obtain ⟨id, q, o, ho, hr, hia⟩ := l3.int (List.getElem?_eq_getElem hjl)
      obtain ⟨id2, q2, o2, ho2, hr2, hia2⟩ := l3.int (List.getElem?_eq_getElem hil)
      have hA : inA l skew l[i] j = (decide (l[j] ≥ l[i]) && decide (l[j] - l[i] ≤ skew)) := by unfold inA; rw [getD_at hjl]
      have wd := wrap64 (l[j] - l[i]) (by omega) (by omega)
      have hrl := rowT_len l skew l[i] j
      have wr := wrap64 (((rowT l skew l[i] j).length : Int) + 1) (by omega) (by omega)
      refine go_draw ?_
      cases qa : decide (l[j] ≥ l[i]) <;> simp only [go_sem, ↓reduceIte, Nat.reduceEqDiff, reduceCtorEq, Nat.reduceAdd, Nat.reduceLeDiff, Nat.reduceMul, k0, k3, k4, k5, k9, k10, k11, tH, hia, ho, hr, hia2, ho2, hr2, qa, wd]
      · refine ⟨by rfl, ?_⟩
        simp only [go_sem, ↓reduceIte, Nat.reduceEqDiff, reduceCtorEq, Nat.reduceAdd, Nat.reduceLeDiff, Nat.reduceMul, k0, k3, k4, k5, k9, k10, k11, tH, wj]
        exact ⟨hjl, by rw [rowT_f (by rw [hA, qa]; rfl)]; simp⟩
      refine ⟨by rfl, ?_⟩
      cases qb : decide (l[j] - l[i] ≤ skew) <;> simp only [go_sem, ↓reduceIte, Nat.reduceEqDiff, reduceCtorEq, Nat.reduceAdd, Nat.reduceLeDiff, Nat.reduceMul, k0, k3, k4, k5, k9, k10, k11, tH, wj, qb, wr]
      · exact ⟨hjl, by rw [rowT_f (by rw [hA, qa, qb]; rfl)]; simp⟩
      · exact ⟨hjl, by rw [rowT_t (by rw [hA, qa, qb]; rfl)]; simp⟩
    · clear k0 k3 k4 k5 k9
      rintro t ⟨tH, k0, k3, k4, k5, k9, k10⟩
      have hmx := agr_max hok hsk hil
      have e1 : decide (((rowT l skew l[i] l.length).length : Int) > ((agrR l skew).length : Int)) = false := decide_eq_false (by omega)
      simp only [go_sem, ↓reduceIte, Nat.reduceEqDiff, reduceCtorEq, Nat.reduceAdd, Nat.reduceLeDiff, Nat.reduceMul, k0, k3, k4, k5, k9, k10, tH, A3.len, e1, wi]
      exact ⟨hil, by simp⟩
  clear k0 k3 k4 k5 hH
  rintro s ⟨hH, k0⟩
  simp only [go_sem, ↓reduceIte, Nat.reduceEqDiff, reduceCtorEq, Nat.reduceAdd, Nat.reduceLeDiff, Nat.reduceMul, k0]
  refine callT_to (fun m' h => f49 v3 h) hH w3 fun r4 H4 ⟨u2, L, i2, most, e, p4, s4, hl4, i0, i1, m0, m1⟩ => ?_
  subst e
  have p4 : H3 <+: H4 := p4
  have w4 := w3.pre p4
  simp only [go_sem, ↓reduceIte, Nat.reduceEqDiff, reduceCtorEq, Nat.reduceAdd, Nat.reduceLeDiff, Nat.reduceMul, List.getElem?_toArray, ofV, k0]
  refine callT_to (fun m' h => f36 (i := i2) s4 m1 h) rfl w4 fun sv H5 ⟨p5, s5, o5⟩ => ?_
  have p5 : H4 <+: H5 := p5
  have w5 := w4.pre p5
  have L5 := s4.pre p5
  simp only [go_sem, ↓reduceIte, Nat.reduceEqDiff, reduceCtorEq, Nat.reduceAdd, Nat.reduceLeDiff, Nat.reduceMul, k0]
  refine callT_to (fun m' h => f35 (i := i2) L5 m1 h) rfl w5 fun sw H6 ⟨p6, s6, o6⟩ => ?_
  have p6 : H5 <+: H6 := p6
  have w6 := w5.pre p6
  have L6 := L5.pre p6
  have S6 := s5.pre p6
  have v6 := v3.pre (p4.trans (p5.trans p6))
  have b46 := fun {m draw s d ts Q} => callT_at (m := m) (draw := draw) (s := s) (d := d) (ts := ts) (Q := Q) (f46 S6 s6)
  rw [dl] at b46
  have b34 := fun {m draw s d ts Q} => callT_at (m := m) (draw := draw) (s := s) (d := d) (ts := ts) (Q := Q) (f34 L6)
  have b33 := fun {m draw s d ts Q} => callT_at (m := m) (draw := draw) (s := s) (d := d) (ts := ts) (Q := Q) (f33 L6)
  have b15 := fun {m draw s d ts Q} => callT_at (m := m) (draw := draw) (s := s) (d := d) (ts := ts) (Q := Q) (f15 L6)
  simp only [go_sem, ↓reduceIte, Nat.reduceEqDiff, reduceCtorEq, Nat.reduceAdd, Nat.reduceLeDiff, Nat.reduceMul, k0, b46, b34, b33, b15, w6, d1]
  cases hok : clOk L <;> simp only [go_sem, ↓reduceIte, Nat.reduceEqDiff, reduceCtorEq, Nat.reduceAdd, Nat.reduceLeDiff, Nat.reduceMul, k0, hok]
  · have e0 : (slwL L i2 most).length = 0 := by rw [slwL_no hok]; rfl
    have e1 : decide ((((slwL L i2 most).length : Nat) : Int) = 0) = true := decide_eq_true (by omega)
    simp only [go_sem, ↓reduceIte, Nat.reduceEqDiff, reduceCtorEq, Nat.reduceAdd, Nat.reduceLeDiff, Nat.reduceMul, S6.len, e1]
  have hL8 := cl_len hok
  have hSl := slwL_len (i := i2) (most := most) hok
  refine go_for L.length (fun i s => s.H = H6 ∧ s.ρ 0 = .val v ∧ s.ρ 12 = .val u2 ∧ s.ρ 13 = .val (.int .i64 i2) ∧ s.ρ 15 = .val sv ∧ s.ρ 16 = .val (.int .i64 i))
    (fun s => s.H = H6 ∧ s.ρ 0 = .val v ∧ s.ρ 12 = .val u2 ∧ s.ρ 15 = .val sv) (by simp [upd, k0]) ?_ ?_
  · clear k0 hH
    rintro k s hi ⟨hH, k0, k12, k13, k15, k16⟩
    simp only [go_sem, ↓reduceIte, Nat.reduceEqDiff, reduceCtorEq, Nat.reduceAdd, Nat.reduceLeDiff, Nat.reduceMul, k0, k12, k13, k15, k16, L6.len]
    cases c1 : decide ((k : Int) < (L.length : Int)) <;> simp only [go_sem, ↓reduceIte, Nat.reduceEqDiff, reduceCtorEq, Nat.reduceAdd, Nat.reduceLeDiff, Nat.reduceMul, k0, k12, k13, k15, k16, c1]
    · exact hH
    have hkl : k < L.length := by have := of_decide_eq_true c1; omega
    have wk := wrap64 ((k : Int) + 1) (by omega) (by omega)
    obtain ⟨y, hy, y1, y2, y3, y4⟩ := slwL_get (i := i2) (most := most) hok hkl
    obtain ⟨id, q, o, ho, hr, hia⟩ := L6.int (List.getElem?_eq_getElem hkl)
    obtain ⟨id2, q2, o2, ho2, hr2, hia2⟩ := S6.int hy
    have e1 : L[k] > 0 → decide (y < 0) = false := fun h => decide_eq_false (by have := y1 h; omega)
    have e2 : L[k] > 0 → decide (y > L[k]) = false := fun h => decide_eq_false (by have := y1 h; omega)
    have e3 : L[k] < 0 → decide (y > 0) = false := fun h => decide_eq_false (by have := y2 h; omega)
    have e4 : L[k] < 0 → decide (y < L[k]) = false := fun h => decide_eq_false (by have := y2 h; omega)
    have e5 : ¬ (k : Int) = i2 → decide (y = L[k]) = true := fun h => decide_eq_true (y3 h)
    generalize L[k] = z at *
    refine go_draw ?_
    cases qa : decide (z > 0)
    · cases qb : decide (z < 0)
      · cases qe : decide ((k : Int) = i2)
        · have e5 := e5 (of_decide_eq_false qe)
          simp only [go_sem, ↓reduceIte, Nat.reduceEqDiff, reduceCtorEq, Nat.reduceAdd, Nat.reduceLeDiff, Nat.reduceMul, k0, k12, k13, k15, k16, hH, hia, ho, hr, hia2, ho2, hr2, qa, qb, qe, e5]
          refine ⟨by rfl, ?_⟩
          simp only [go_sem, ↓reduceIte, Nat.reduceEqDiff, reduceCtorEq, Nat.reduceAdd, Nat.reduceLeDiff, Nat.reduceMul, k0, k12, k13, k15, k16, hH, e5, wk]
          exact ⟨hkl, by simp⟩
        · simp only [go_sem, ↓reduceIte, Nat.reduceEqDiff, reduceCtorEq, Nat.reduceAdd, Nat.reduceLeDiff, Nat.reduceMul, k0, k12, k13, k15, k16, hH, hia, ho, hr, hia2, ho2, hr2, qa, qb, qe]
          refine ⟨by rfl, ?_⟩
          simp only [go_sem, ↓reduceIte, Nat.reduceEqDiff, reduceCtorEq, Nat.reduceAdd, Nat.reduceLeDiff, Nat.reduceMul, k0, k12, k13, k15, k16, hH, wk]
          exact ⟨hkl, by simp⟩
      · have e3 := e3 (of_decide_eq_true qb)
        have e4 := e4 (of_decide_eq_true qb)
        cases qe : decide ((k : Int) = i2)
        · have e5 := e5 (of_decide_eq_false qe)
          simp only [go_sem, ↓reduceIte, Nat.reduceEqDiff, reduceCtorEq, Nat.reduceAdd, Nat.reduceLeDiff, Nat.reduceMul, k0, k12, k13, k15, k16, hH, hia, ho, hr, hia2, ho2, hr2, qa, qb, e3, e4, qe, e5]
          refine ⟨by rfl, ?_⟩
          simp only [go_sem, ↓reduceIte, Nat.reduceEqDiff, reduceCtorEq, Nat.reduceAdd, Nat.reduceLeDiff, Nat.reduceMul, k0, k12, k13, k15, k16, hH, e5, wk]
          exact ⟨hkl, by simp⟩
        · simp only [go_sem, ↓reduceIte, Nat.reduceEqDiff, reduceCtorEq, Nat.reduceAdd, Nat.reduceLeDiff, Nat.reduceMul, k0, k12, k13, k15, k16, hH, hia, ho, hr, hia2, ho2, hr2, qa, qb, e3, e4, qe]
          refine ⟨by rfl, ?_⟩
          simp only [go_sem, ↓reduceIte, Nat.reduceEqDiff, reduceCtorEq, Nat.reduceAdd, Nat.reduceLeDiff, Nat.reduceMul, k0, k12, k13, k15, k16, hH, wk]
          exact ⟨hkl, by simp⟩
    · have hz := of_decide_eq_true qa
      have e1 := e1 hz
      have e2 := e2 hz
      have qb : decide (z < 0) = false := decide_eq_false (by omega)
      cases qe : decide ((k : Int) = i2)
      · have e5 := e5 (of_decide_eq_false qe)
        simp only [go_sem, ↓reduceIte, Nat.reduceEqDiff, reduceCtorEq, Nat.reduceAdd, Nat.reduceLeDiff, Nat.reduceMul, k0, k12, k13, k15, k16, hH, hia, ho, hr, hia2, ho2, hr2, qa, qb, e1, e2, qe, e5]
        refine ⟨by rfl, ?_⟩
        simp only [go_sem, ↓reduceIte, Nat.reduceEqDiff, reduceCtorEq, Nat.reduceAdd, Nat.reduceLeDiff, Nat.reduceMul, k0, k12, k13, k15, k16, hH, e5, wk]
        exact ⟨hkl, by simp⟩
      · simp only [go_sem, ↓reduceIte, Nat.reduceEqDiff, reduceCtorEq, Nat.reduceAdd, Nat.reduceLeDiff, Nat.reduceMul, k0, k12, k13, k15, k16, hH, hia, ho, hr, hia2, ho2, hr2, qa, qb, e1, e2, qe]
        refine ⟨by rfl, ?_⟩
        simp only [go_sem, ↓reduceIte, Nat.reduceEqDiff, reduceCtorEq, Nat.reduceAdd, Nat.reduceLeDiff, Nat.reduceMul, k0, k12, k13, k15, k16, hH, wk]
        exact ⟨hkl, by simp⟩
  clear k0 hH
  rintro s ⟨hH, k0, k12, k15⟩
  simp only [go_sem, ↓reduceIte, Nat.reduceEqDiff, reduceCtorEq, Nat.reduceAdd, Nat.reduceLeDiff, Nat.reduceMul, k0, k12, k15]
  refine go_for L.length (fun i s => H6 <+: s.H ∧ s.ρ 0 = .val v ∧ s.ρ 12 = .val u2 ∧ s.ρ 17 = .val (.int .i64 i) ∧ ∃ wv M, s.ρ 15 = .val wv ∧ SlI s.H wv M ∧ M.length = L.length ∧ clOk M = true ∧ ∀ j, j < i → M[j]? = some 0)
    (fun s => H6 <+: s.H ∧ s.ρ 0 = .val v ∧ ∃ wv M, s.ρ 15 = .val wv ∧ SlI s.H wv M ∧ ∀ j, j < M.length → M[j]? = some 0) ?_ ?_ ?_
  · exact ⟨by show H6 <+: s.H; rw [hH]; exact List.prefix_refl _, by simp [upd, k0], by simp [upd, k12], by simp [upd], sv, slwL L i2 most, by simp [upd, k15], by show SlI s.H _ _; rw [hH]; exact S6, hSl, slwL_ok hok, fun j hj => by omega⟩
  · clear k0 k12 k15 hH
    rintro k s hi ⟨kH, k0, k12, k17, wv, M, k15, sM, hM, hMo, hz⟩
    have lk := L6.pre kH
    have wk := w6.pre kH
    simp only [go_sem, ↓reduceIte, Nat.reduceEqDiff, reduceCtorEq, Nat.reduceAdd, Nat.reduceLeDiff, Nat.reduceMul, k0, k12, k15, k17, lk.len]
    cases c1 : decide ((k : Int) < (L.length : Int)) <;> simp only [go_sem, ↓reduceIte, Nat.reduceEqDiff, reduceCtorEq, Nat.reduceAdd, Nat.reduceLeDiff, Nat.reduceMul, k0, k12, k15, k17, c1]
    · have : k = L.length := by have := of_decide_eq_false c1; omega
      subst this
      exact ⟨kH, wv, M, rfl, sM, fun j hj => hz j (by omega)⟩
    have hkl : k < L.length := by have := of_decide_eq_true c1; omega
    have wi := wrap64 ((k : Int) + 1) (by omega) (by omega)
    refine callT_to (fun m' h => f36 (i := (k : Int)) (most := 1000) sM (by omega) h) rfl wk fun nv H7 ⟨p7, s7, o7⟩ => ?_
    have p7 : s.H <+: H7 := p7
    have hset := slwL_all (k := k) hMo (by omega)
    have hok7 := slwL_ok (i := (k : Int)) (most := 1000) hMo
    rw [hset] at s7 hok7
    simp only [go_sem, ↓reduceIte, Nat.reduceEqDiff, reduceCtorEq, Nat.reduceAdd, Nat.reduceLeDiff, Nat.reduceMul, k0, k12, k17, wi]
    refine ⟨hkl, kH.trans p7, by simp, nv, M.set k 0, rfl, s7, by simp [hM], hok7, fun j hj => ?_⟩
    by_cases e : j = k
    · subst e
      exact List.getElem?_set_self (by omega)
    · rw [List.getElem?_set_ne (fun e2 => e e2.symm)]
      exact hz j (by omega)
  clear k0 k12 k15 hH
  rintro s ⟨kH, k0, wv, M, k15, sM, hz⟩
  have v7 := v6.pre kH
  have w7 := w6.pre kH
  simp only [go_sem, ↓reduceIte, Nat.reduceEqDiff, reduceCtorEq, Nat.reduceAdd, Nat.reduceLeDiff, Nat.reduceMul, k0, k15]
  refine callT_to (fun m' h => f50 v7 h) rfl w7 fun r8 H8 ⟨u3, R, i3, t3, e, p8, s8⟩ => ?_
  subst e
  have p8 : s.H <+: H8 := p8
  have w8 := w7.pre p8
  have M8 := sM.pre p8
  have e0 : sprR M = 0 := spr_zero fun k hk => by
    have := hz k hk
    rw [List.getElem?_eq_getElem hk] at this
    exact Option.some.inj this
  have g34 := fun {m draw s d ts Q} => callT_at (m := m) (draw := draw) (s := s) (d := d) (ts := ts) (Q := Q) (f34 M8)
  rw [e0] at g34
  have g25 := fun {m draw s d ts Q} => callT_at (m := m) (draw := draw) (s := s) (d := d) (ts := ts) (Q := Q) (f25 (i := i3) (t := t3) s8)
  have g24 := fun {m draw s d ts Q} => callT_at (m := m) (draw := draw) (s := s) (d := d) (ts := ts) (Q := Q) (f24 (i := i3) (t := t3) s8)
  simp only [go_sem, ↓reduceIte, Nat.reduceEqDiff, reduceCtorEq, Nat.reduceAdd, Nat.reduceLeDiff, Nat.reduceMul, List.getElem?_toArray, ofV, k0, k15, g34, g25, g24, w8, d1]
end Go.Proofs.Ytfkecldlhngjhaa.Ev
