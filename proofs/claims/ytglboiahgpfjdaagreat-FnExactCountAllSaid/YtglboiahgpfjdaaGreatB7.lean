/- Texts of this proof, laid one behind the other: what each shows stands at its head. -/
import Derived.Test.YtglboiahgpfjdaaGreatB3
import Derived.Test.YtglboiahgpfjdaaGreatB6
/- The law CountAll. -/
namespace Go.Proofs.YtglboiahgpfjdaaGreat.Ev
set_option linter.all false
open Go
set_option maxRecDepth 4000

theorem ct_ex (w : Wd) : ∃ c1 c2 c3 c4 c5 c6 : Int, ctA w = .agg #[.int .i64 c1, .int .i64 c2, .int .i64 c3, .int .i64 c4, .int .i64 c5, .int .i64 c6] := by
  unfold ctA
  split
  · exact ⟨_, _, _, _, _, _, rfl⟩
  · exact ⟨_, _, _, _, _, _, rfl⟩
theorem law3 {m : Md} {H : Hp} {v0 : Value} {w : Wd} (e0 : ∃ u s l p n t k a c h e x d, v0 = .agg #[u, s, l, p, .int .i64 w.cf.skew, .int .i64 w.now, .int .i64 w.fresh, n, t, k, a, c, h, e, x, d] ∧ RWd H w u s l p n t k a c h e x d) (hy : WdY w) (hw : Wr m H) (hnr : m.nr = false) : Fun EE m 3 [v0] H fun r _ => r = .bool true := by
  obtain ⟨u, s, l, p, n, t, k, a, c, h, e, x, d, rfl, q⟩ := e0
  refine fun_f rfl rfl k3 (by simp [c3]) ?_
  have V := q.vcs
  simp only [go_sem, ↓reduceIte, Nat.reduceEqDiff, reduceCtorEq, Nat.reduceAdd, Nat.reduceLeDiff, Nat.reduceMul, c3, V]
  refine callT_to (fun m' h' => f7 q hy (left := 1048576) (by omega) (by omega) m' h') rfl hw fun r H' ⟨⟨n0, e0, hn0⟩, e2⟩ => ?_
  subst e0; subst e2
  simp only [go_sem, ↓reduceIte, Nat.reduceEqDiff, reduceCtorEq, Nat.reduceAdd, Nat.reduceLeDiff, Nat.reduceMul, V]
  refine brT.intro (fun q0 => ?_) (fun q0 => ?_) <;> simp only [go_sem, ↓reduceIte, Nat.reduceEqDiff, reduceCtorEq, Nat.reduceAdd, Nat.reduceLeDiff, Nat.reduceMul, V]
  have zs := hn0 (by have := of_decide_eq_false q0; omega)
  have z := hy.z zs
  refine callT_nr (fun m' g hn => f9 q zs g (hn.trans hnr)) rfl hw fun r1 H1 ⟨u1, s1, l1, p1, n1, t1, k1, a1, c1, h1, e1, x1, d1, E1, P1, q1⟩ => ?_
  subst E1
  have w1 := hw.pre P1
  have V1 := q1.vcs
  have asp := fun {m draw s' d' ts Q} => callT_at (m := m) (draw := draw) (s := s') (d := d') (ts := ts) (Q := Q) (f8 q1 z)
  obtain ⟨x1', x2', x3', x4', x5', x6', ec⟩ := ct_ex w
  rw [ec] at asp
  simp only [go_sem, ↓reduceIte, Nat.reduceEqDiff, reduceCtorEq, Nat.reduceAdd, Nat.reduceLeDiff, Nat.reduceMul, V, V1, asp, w1]
  refine callT_nr (fun m' g hn => f9 (q.pre P1) zs g (hn.trans hnr)) rfl w1 fun r2 H2 ⟨u2, s2, l2, p2, n2, t2, k2, a2, c2, h2, e2, x2, d2, E2, P2, q2⟩ => ?_
  subst E2
  have w2 := w1.pre P2
  have V2 := q2.vcs
  have ai := fun {m draw s' d' ts Q} => callT_at (m := m) (draw := draw) (s := s') (d := d') (ts := ts) (Q := Q) (f10 q2 z)
  rw [ec] at ai
  have a11 := fun {m draw s' d' ts Q} => callT_at (m := m) (draw := draw) (s := s') (d := d') (ts := ts) (Q := Q) (f11 (H := H2) (a := x1') (b := x2') (c := x3') (d := x4') (e := x5') (f := x6'))
  simp only [go_sem, ↓reduceIte, Nat.reduceEqDiff, reduceCtorEq, Nat.reduceAdd, Nat.reduceLeDiff, Nat.reduceMul, V, V1, V2, ai, a11, w2, Bool.not_true]
  refine go_draw ?_
  simp only [go_sem, ↓reduceIte, Nat.reduceEqDiff, reduceCtorEq, Nat.reduceAdd, Nat.reduceLeDiff, Nat.reduceMul, V, V2]
  refine callT_nr (fun m' g hn => f9 ((q.pre P1).pre P2) zs g (hn.trans hnr)) rfl w2 fun r3 H3 ⟨u3, s3, l3, p3, n3, t3, k3, a3, c3, h3, e3, x3, d3, E3, P3, q3⟩ => ?_
  subst E3
  have w3 := w2.pre P3
  have V3 := q3.vcs
  have a12 := fun {m draw s' d' ts Q} => callT_at (m := m) (draw := draw) (s := s') (d := d') (ts := ts) (Q := Q) (f12 (q2.pre P3) q3)
  simp only [go_sem, ↓reduceIte, Nat.reduceEqDiff, reduceCtorEq, Nat.reduceAdd, Nat.reduceLeDiff, Nat.reduceMul, V, V2, V3, a12, w3, Bool.not_true]
  rfl
end Go.Proofs.YtglboiahgpfjdaaGreat.Ev
