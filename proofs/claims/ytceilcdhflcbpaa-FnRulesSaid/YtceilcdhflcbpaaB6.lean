/- Texts of this proof, laid one behind the other: what each shows stands at its head. -/
import Derived.Test.YtceilcdhflcbpaaB3
import Derived.Test.YtceilcdhflcbpaaB5
/- The law Rules. -/
namespace Go.Proofs.Ytceilcdhflcbpaa.Ev
set_option linter.all false
open Go
set_option maxRecDepth 4000

theorem law8 {m : Md} {H : Hp} {v : Value} {cl : List Int} (hv : SlU H v cl) (hw : Wr m H) (hnr : m.nr = false) : Fun EE m 8 [v] H fun r _ => r = .bool true := by
  refine fun_f rfl rfl k8 (by simp [c8]) ?_
  have a24 := fun {m draw s d ts Q} => callT_at (m := m) (draw := draw) (s := s) (d := d) (ts := ts) (Q := Q) (f24 hv)
  have bb : ∀ b : Bool, decide (b = b) = true := fun b => by simp
  have ss : ∀ b : ByteArray, decide (b = b) = true := fun b => by simp
  simp only [go_sem, ↓reduceIte, Nat.reduceEqDiff, reduceCtorEq, Nat.reduceAdd, Nat.reduceLeDiff, Nat.reduceMul, c8, a24, hw]
  refine brT.intro (fun q0 => ?_) (fun q0 => ?_) <;> simp only [go_sem, ↓reduceIte, Nat.reduceEqDiff, reduceCtorEq, Nat.reduceAdd, Nat.reduceLeDiff, Nat.reduceMul]
  refine callD (f28 hv hw hnr) rfl fun r1 H1 ⟨ua, ub, a, b, e, p1, sa, sb⟩ => ?_
  subst e
  have p1 : H <+: H1 := p1
  have w1 := hw.pre p1
  simp only [go_sem, ↓reduceIte, Nat.reduceEqDiff, reduceCtorEq, Nat.reduceAdd, Nat.reduceLeDiff, Nat.reduceMul, List.getElem?_toArray, ofV]
  refine callD (f29 sa w1 hnr) rfl fun un H2 ⟨p2, Ln, sn, en⟩ => ?_
  have p2 : H1 <+: H2 := p2
  have w2 := w1.pre p2
  have sn := sn.r
  rw [en] at sn
  simp only [go_sem, ↓reduceIte, Nat.reduceEqDiff, reduceCtorEq, Nat.reduceAdd, Nat.reduceLeDiff, Nat.reduceMul]
  refine callD (f30 (sa.pre p2) (sb.pre p2) w2 hnr) rfl fun uj H3 ⟨p3, Lj, sj, ej⟩ => ?_
  have p3 : H2 <+: H3 := p3
  have w3 := w2.pre p3
  have sj := sj.r
  rw [ej] at sj
  have p123 := p1.trans (p2.trans p3)
  simp only [go_sem, ↓reduceIte, Nat.reduceEqDiff, reduceCtorEq, Nat.reduceAdd, Nat.reduceLeDiff, Nat.reduceMul]
  refine callD (f31 (hv.pre p123) w3 hnr) rfl fun r4 H4 ⟨up, uq, p, q, e, p4, sp, sq⟩ => ?_
  subst e
  have p4 : H3 <+: H4 := p4
  have w4 := w3.pre p4
  simp only [go_sem, ↓reduceIte, Nat.reduceEqDiff, reduceCtorEq, Nat.reduceAdd, Nat.reduceLeDiff, Nat.reduceMul, List.getElem?_toArray, ofV]
  refine callD (f32 sp sq w4 hnr) rfl fun r5 H5 ⟨e, p5⟩ => ?_
  subst e
  have p5 : H4 <+: H5 := p5
  have w5 := w4.pre p5
  simp only [go_sem, ↓reduceIte, Nat.reduceEqDiff, reduceCtorEq, Nat.reduceAdd, Nat.reduceLeDiff, Nat.reduceMul]
  refine callD (f33 (sp.pre p5) (sq.pre p5) w5) rfl fun r6 H6 ⟨e, p6⟩ => ?_
  subst e
  have p6 : H5 <+: H6 := p6
  have w6 := w5.pre p6
  have p26 := p3.trans (p4.trans (p5.trans p6))
  have n6 := sn.pre p26
  have j6 := sj.pre (p4.trans (p5.trans p6))
  have a6 := sa.pre (p2.trans p26)
  have b6 := sb.pre (p2.trans p26)
  have P6 := sp.pre (p5.trans p6)
  have q6 := sq.pre (p5.trans p6)
  have v6 := hv.pre (p1.trans (p2.trans p26))
  obtain ⟨nok, n5, nid⟩ := normR_ok (a := a)
  obtain ⟨jok, j5⟩ := join_ok (a := a) (b := b)
  have n34 := fun {m draw s d ts Q} => callT_at (m := m) (draw := draw) (s := s) (d := d) (ts := ts) (Q := Q) (f34 n6)
  have j34 := fun {m draw s d ts Q} => callT_at (m := m) (draw := draw) (s := s) (d := d) (ts := ts) (Q := Q) (f34 j6)
  rw [nok] at n34
  rw [jok] at j34
  have dn : decide (((normR a).length : Int) > 5) = false := decide_eq_false (by omega)
  have dj : decide (((joinR a b).length : Int) > 5) = false := decide_eq_false (by omega)
  simp only [go_sem, ↓reduceIte, Nat.reduceEqDiff, reduceCtorEq, Nat.reduceAdd, Nat.reduceLeDiff, Nat.reduceMul, beqK, bb, n34, j34, w6, n6.len, j6.len, dn, dj]
  refine callD (f29 n6 w6 hnr) rfl fun um H7 ⟨p7, Lm, sm, em⟩ => ?_
  have p7 : H6 <+: H7 := p7
  have w7 := w6.pre p7
  have sm := sm.r
  rw [em, nid] at sm
  have n7 := n6.pre p7
  have j7 := j6.pre p7
  have a7 := a6.pre p7
  have b7 := b6.pre p7
  have P7 := P6.pre p7
  have q7 := q6.pre p7
  have v7 := v6.pre p7
  have m35 := fun {m draw s d ts Q} => callT_at (m := m) (draw := draw) (s := s) (d := d) (ts := ts) (Q := Q) (f35 sm)
  have n35 := fun {m draw s d ts Q} => callT_at (m := m) (draw := draw) (s := s) (d := d) (ts := ts) (Q := Q) (f35 n7)
  simp only [go_sem, ↓reduceIte, Nat.reduceEqDiff, reduceCtorEq, Nat.reduceAdd, Nat.reduceLeDiff, Nat.reduceMul, m35, n35, w7, ss]
  refine go_for 12 (fun i s => H7 <+: s.H ∧ s.ρ 0 = .val v ∧ s.ρ 3 = .val ua ∧ s.ρ 4 = .val ub ∧ s.ρ 5 = .val un ∧ s.ρ 6 = .val uj ∧ s.ρ 7 = .val up ∧ s.ρ 8 = .val uq ∧ s.ρ 9 = .val (.bool (srR p q)) ∧ s.ρ 11 = .val (.int .i64 i))
    (fun s => H7 <+: s.H ∧ s.ρ 3 = .val ua ∧ s.ρ 5 = .val un) ?_ ?_ ?_
  · exact ⟨List.prefix_refl _, by simp [upd, ini], by simp [upd], by simp [upd], by simp [upd], by simp [upd], by simp [upd], by simp [upd], by simp [upd], by simp [upd]⟩
  · rintro i s hi ⟨kH, k0, k3, k4, k5, k6, k7, k8, k9, k11⟩
    have wk := w7.pre kH
    simp only [go_sem, ↓reduceIte, Nat.reduceEqDiff, reduceCtorEq, Nat.reduceAdd, Nat.reduceLeDiff, Nat.reduceMul, k0, k3, k4, k5, k6, k7, k8, k9, k11]
    cases c1 : decide ((i : Int) < 12) <;> simp only [go_sem, ↓reduceIte, Nat.reduceEqDiff, reduceCtorEq, Nat.reduceAdd, Nat.reduceLeDiff, Nat.reduceMul, k0, k3, k4, k5, k6, k7, k8, k9, k11, c1]
    · exact kH
    have hi12 : i < 12 := by have := of_decide_eq_true c1; omega
    have wi := wrap64 ((i : Int) + 1) (by omega) (by omega)
    refine callD (f37 (n := (i : Int)) (v7.pre kH) wk) rfl fun fv T1 ⟨fl, sf, t1⟩ => ?_
    have t1 : s.H <+: T1 := t1
    have wt1 := wk.pre t1
    simp only [go_sem, ↓reduceIte, Nat.reduceEqDiff, reduceCtorEq, Nat.reduceAdd, Nat.reduceLeDiff, Nat.reduceMul, k0, k3, k4, k5, k6, k7, k8, k9, k11]
    refine callD (f36 sf wt1 hnr) rfl fun rx T2 ⟨ux, x, g, e, t2, sg, hx, hvc⟩ => ?_
    subst e
    have t2 : T1 <+: T2 := t2
    have wt2 := wt1.pre t2
    have pk := kH.trans (t1.trans t2)
    have aa := a7.pre pk
    have ab := b7.pre pk
    have an := n7.pre pk
    have aj := j7.pre pk
    have ap := P7.pre pk
    have aq := q7.pre pk
    have x38 := fun {m draw s d ts Q} => callT_at (m := m) (draw := draw) (s := s) (d := d) (ts := ts) (Q := Q) (f38 (x := x) aa sg)
    have y38 := fun {m draw s d ts Q} => callT_at (m := m) (draw := draw) (s := s) (d := d) (ts := ts) (Q := Q) (f38 (x := x) ab sg)
    have p38 := fun {m draw s d ts Q} => callT_at (m := m) (draw := draw) (s := s) (d := d) (ts := ts) (Q := Q) (f38 (x := x) ap sg)
    have q38 := fun {m draw s d ts Q} => callT_at (m := m) (draw := draw) (s := s) (d := d) (ts := ts) (Q := Q) (f38 (x := x) aq sg)
    have x39 := fun {m draw s d ts Q} => callT_at (m := m) (draw := draw) (s := s) (d := d) (ts := ts) (Q := Q) (f39 (x := x) aa sg)
    have n39 := fun {m draw s d ts Q} => callT_at (m := m) (draw := draw) (s := s) (d := d) (ts := ts) (Q := Q) (f39 (x := x) an sg)
    have j39 := fun {m draw s d ts Q} => callT_at (m := m) (draw := draw) (s := s) (d := d) (ts := ts) (Q := Q) (f39 (x := x) aj sg)
    have r34 := fun {m draw s d ts Q} => callT_at (m := m) (draw := draw) (s := s) (d := d) (ts := ts) (Q := Q) (f34 aa)
    have s34 := fun {m draw s d ts Q} => callT_at (m := m) (draw := draw) (s := s) (d := d) (ts := ts) (Q := Q) (f34 ab)
    have hraa := aa.room
    have hrab := ab.room
    unfold vAk at x38 y38 p38 q38 x39 n39 j39 ⊢
    simp only [go_sem, ↓reduceIte, Nat.reduceEqDiff, reduceCtorEq, Nat.reduceAdd, Nat.reduceLeDiff, Nat.reduceMul, k0, k3, k4, k5, k6, k7, k8, k9, k11, List.getElem?_toArray, ofV, exps, fillL, x38, y38, wt2, x39, beqK, bb, r34]
    have hS : (srR p q = false ∧ srR p q = false ∧ srR p q = false) ∨ (srR p q = true ∧ allR p x = false ∧ allR p x = false) ∨ (srR p q = true ∧ allR p x = true ∧ allR q x = true) := by
      cases qs : srR p q
      · exact .inl ⟨rfl, rfl, rfl⟩
      · cases qp : allR p x
        · exact .inr (.inl ⟨rfl, rfl, rfl⟩)
        · exact .inr (.inr ⟨rfl, rfl, strict_allow qs qp hx⟩)
    have wl : rulesOk a = true → rulesOk b = true → IntKind.i64.wrap ((a.length : Int) + (b.length : Int)) = (a.length : Int) + (b.length : Int) := fun h1 h2 => by
      have := (rules_t.1 h1).1
      have := (rules_t.1 h2).1
      exact wrap64 _ (by omega) (by omega)
    have hN : rulesOk a = true → allR (normR a) x = allR a x := fun h => by rw [show normR a = normT a 5 by unfold normR; rw [if_pos h]]; exact allow_norm h
    cases qa : rulesOk a
    · rw [qa] at r34
      rcases hS with ⟨s1, s2, s3⟩ | ⟨s1, s2, s3⟩ | ⟨s1, s2, s3⟩ <;> simp only [go_sem, ↓reduceIte, Nat.reduceEqDiff, reduceCtorEq, Nat.reduceAdd, Nat.reduceLeDiff, Nat.reduceMul, k0, k3, k4, k5, k6, k7, k8, k9, k11, r34, wt2, p38, q38, s1, s2, s3, wi] <;> exact ⟨hi12, pk, by simp⟩
    have hN := hN qa
    have hala := (rules_t.1 qa).1
    rw [qa] at r34
    rw [hN] at n39
    cases qb : rulesOk b
    · rw [qb] at s34
      rcases hS with ⟨s1, s2, s3⟩ | ⟨s1, s2, s3⟩ | ⟨s1, s2, s3⟩ <;> simp only [go_sem, ↓reduceIte, Nat.reduceEqDiff, reduceCtorEq, Nat.reduceAdd, Nat.reduceLeDiff, Nat.reduceMul, k0, k3, k4, k5, k6, k7, k8, k9, k11, r34, s34, n39, wt2, beqK, bb, p38, q38, s1, s2, s3, wi] <;> exact ⟨hi12, pk, by simp⟩
    rw [qb] at s34
    have wl := wl qa qb
    cases q2 : decide ((a.length : Int) + (b.length : Int) ≤ 20)
    · rcases hS with ⟨s1, s2, s3⟩ | ⟨s1, s2, s3⟩ | ⟨s1, s2, s3⟩ <;> simp only [go_sem, ↓reduceIte, Nat.reduceEqDiff, reduceCtorEq, Nat.reduceAdd, Nat.reduceLeDiff, Nat.reduceMul, k0, k3, k4, k5, k6, k7, k8, k9, k11, r34, s34, n39, wt2, beqK, bb, aa.len, ab.len, wl, q2, p38, q38, s1, s2, s3, wi] <;> exact ⟨hi12, pk, by simp⟩
    have hJ := allow_join (x := x) qa qb (by have := of_decide_eq_true q2; omega)
    rw [hJ] at j39
    cases q3 : allR a x
    · rw [q3] at j39
      rcases hS with ⟨s1, s2, s3⟩ | ⟨s1, s2, s3⟩ | ⟨s1, s2, s3⟩ <;> simp only [go_sem, ↓reduceIte, Nat.reduceEqDiff, reduceCtorEq, Nat.reduceAdd, Nat.reduceLeDiff, Nat.reduceMul, k0, k3, k4, k5, k6, k7, k8, k9, k11, r34, s34, n39, wt2, beqK, bb, aa.len, ab.len, wl, q2, q3, j39, Bool.false_and, p38, q38, s1, s2, s3, wi] <;> exact ⟨hi12, pk, by simp⟩
    · rw [q3] at j39
      rcases hS with ⟨s1, s2, s3⟩ | ⟨s1, s2, s3⟩ | ⟨s1, s2, s3⟩ <;> simp only [go_sem, ↓reduceIte, Nat.reduceEqDiff, reduceCtorEq, Nat.reduceAdd, Nat.reduceLeDiff, Nat.reduceMul, k0, k3, k4, k5, k6, k7, k8, k9, k11, r34, s34, n39, wt2, beqK, bb, aa.len, ab.len, wl, q2, q3, j39, Bool.true_and, p38, q38, s1, s2, s3, wi] <;> exact ⟨hi12, pk, by simp⟩
  · rintro s ⟨kH, k3, k5⟩
    have wk := w7.pre kH
    have aa := a7.pre kH
    have an := n7.pre kH
    have r34 := fun {m draw s d ts Q} => callT_at (m := m) (draw := draw) (s := s) (d := d) (ts := ts) (Q := Q) (f34 aa)
    simp only [go_sem, ↓reduceIte, Nat.reduceEqDiff, reduceCtorEq, Nat.reduceAdd, Nat.reduceLeDiff, Nat.reduceMul, k3, k5, r34, wk]
    cases qa : rulesOk a <;> simp only [go_sem, ↓reduceIte, Nat.reduceEqDiff, reduceCtorEq, Nat.reduceAdd, Nat.reduceLeDiff, Nat.reduceMul, k3, k5, qa]
    have hnr2 : normR a = normT a 5 := by unfold normR; rw [if_pos qa]
    have ke : ∀ k, kindR (normR a) k = kindR a k := fun k => by rw [hnr2]; exact kind_n5 (rules_t.1 qa).2 k
    have e1 := str_same qa qa fun _ => rfl
    have e2 := str_same qa nok fun k => (ke k).symm
    have e3 := str_same nok qa ke
    refine callD (f32 aa aa wk hnr) rfl fun r1 T1 ⟨e, t1⟩ => ?_
    subst e
    have t1 : s.H <+: T1 := t1
    have wt1 := wk.pre t1
    simp only [go_sem, ↓reduceIte, Nat.reduceEqDiff, reduceCtorEq, Nat.reduceAdd, Nat.reduceLeDiff, Nat.reduceMul, k3, k5, e1]
    refine callD (f32 (aa.pre t1) (an.pre t1) wt1 hnr) rfl fun r1 T2 ⟨e, t2⟩ => ?_
    subst e
    have t2 : T1 <+: T2 := t2
    have wt2 := wt1.pre t2
    simp only [go_sem, ↓reduceIte, Nat.reduceEqDiff, reduceCtorEq, Nat.reduceAdd, Nat.reduceLeDiff, Nat.reduceMul, k3, k5, e2]
    refine callD (f32 (an.pre (t1.trans t2)) (aa.pre (t1.trans t2)) wt2 hnr) rfl fun r1 T3 ⟨e, t3⟩ => ?_
    subst e
    simp only [go_sem, ↓reduceIte, Nat.reduceEqDiff, reduceCtorEq, Nat.reduceAdd, Nat.reduceLeDiff, Nat.reduceMul, k3, k5, e3]
end Go.Proofs.Ytceilcdhflcbpaa.Ev
