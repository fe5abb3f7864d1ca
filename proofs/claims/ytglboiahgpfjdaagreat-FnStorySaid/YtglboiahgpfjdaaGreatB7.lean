/- Texts of the proof, laid one behind the other. -/
import Derived.Test.YtglboiahgpfjdaaGreatB3
import Derived.Test.YtglboiahgpfjdaaGreatB6
import Derived.Test.YtglboiahgpfjdaaGreatB4
import Derived.Test.YtglboiahgpfjdaaGreatB5
namespace Go.Proofs.YtglboiahgpfjdaaGreat.Ev
set_option linter.all false
set_option maxRecDepth 4000
open Go
def AcX (H0 : Hp) (c : Value) (id : Nat) (r : Value) (H' : Hp) : Prop := ∃ x : Ac, r = dX x ∧ x.tx.size ≤ 1000 ∧ CX H0 H' c id
abbrev z9 : List Value := [.int .i64 0, .int .i64 0, .int .i64 0, .int .i64 0, .int .i64 0, .int .i64 0, .int .i64 0, .int .i64 0, .string ⟨#[]⟩]
theorem CX.kee {κ : Nat → Nat} {H H' : Hp} {c : Value} {id : Nat} (h : CX H H' c id) (hk : κ id = 99) : Kh κ (Cm κ H.length 99) H H' 99 :=
 ⟨h.2.2, fun _ hj => A2 hj, fun j hj hn => h.2.1 j hj fun e => hn (by rw [e]; exact hk)⟩
theorem Eo.cx {κ : Nat → Nat} {H H' : Hp} {w : Wd} {f : Rf} {c : Value} {id : Nat} (q : He κ H w f) (h : CX H H' c id) (hk : κ id = 99) : He (Cm κ H.length 99) H' w f := Eo.keep q (h.kee hk) (by decide)
theorem pM {m : Md} {κ : Nat → Nat} {H0 H : Hp} {w : Wd} {f : Rf} {c : Value} {id : Nat} (q : He κ H w f) (hi : Pe w) (hk : κ id = 99) (hc : CX H0 H c id) (hw0 : Wr m H) (hw : m.wr id = true) : Ci EE m 149 [c, Mv w f] H fun r H' => AcX H0 c id r H' := by
 have hid := hc.1.lt
 refine Hi rfl rfl zK (by simp [gO]) fun m' hm => ?_
 have hw : m'.wr id = true := (hm id).trans hw
 have hw0 : Wr m' H := fun j hj => (hm j).trans (hw0 j hj)
 have hwx : ∀ {H' : Hp}, CX H H' c id → Wr m' H' := fun h j hj => hw0 j (C8 h.2.2 hj)
 have hi0 := hi
 have V := q.vcs
 have qn := q.n (by decide)
 have qa := q.a (by decide)
 have qx := q.x (by decide)
 have lr := qn.1.room
 unfold Ev.room at lr
 have w1 := Ab ((w.net.length : Int) - 1) (by omega) (by omega)
 simp only [go_sem, ↓reduceIte, Nat.reduceEqDiff, reduceCtorEq, Nat.reduceAdd, Nat.reduceLeDiff, Nat.reduceMul, gO, V, qn.1.len, w1]
 refine P8 3 2 (fun t => CX H t.H c id ∧ t.ρ 0 = .val c ∧ (∃ g, t.ρ 3 = .bx g (M4 w f)) ∧ (∃ g, t.ρ 4 = .bx g z9) ∧ ∃ a, t.ρ 5 = .val (.int .i64 a)) (fun q1 => ?_) (fun q1 => ?_) rfl ?_
 ·simp only [go_sem, ↓reduceIte, Nat.reduceEqDiff, reduceCtorEq, Nat.reduceAdd, Nat.reduceLeDiff, Nat.reduceMul, q1]
  refine Aq (Hd (CX.refl hc.1) hw) rfl fun r H1 ⟨b, e, h1⟩ => ?_
  subst e
  cases b <;> simp only [go_sem, ↓reduceIte, Nat.reduceEqDiff, reduceCtorEq, Nat.reduceAdd, Nat.reduceLeDiff, Nat.reduceMul, (qn.cx hk (by decide) h1).len]
  ·exact ⟨h1, ⟨_, rfl⟩, ⟨_, rfl⟩, _, rfl⟩
  refine Aq (Cs h1 hw) rfl fun r H2 ⟨x, e, _, _, h2⟩ => ?_
  subst e
  simp only [go_sem, ↓reduceIte, Nat.reduceEqDiff, reduceCtorEq, Nat.reduceAdd, Nat.reduceLeDiff, Nat.reduceMul]
  exact ⟨h2, ⟨_, rfl⟩, ⟨_, rfl⟩, _, rfl⟩
 ·simp only [go_sem, ↓reduceIte, Nat.reduceEqDiff, reduceCtorEq, Nat.reduceAdd, Nat.reduceLeDiff, Nat.reduceMul, q1]
  exact ⟨CX.refl hc.1, ⟨_, rfl⟩, ⟨_, rfl⟩, _, rfl⟩
 rintro t ⟨tc, t0, ⟨g3, t3⟩, ⟨g4, t4⟩, a, t5⟩
 simp only [go_sem, ↓reduceIte, Nat.reduceEqDiff, reduceCtorEq, Nat.reduceAdd, Nat.reduceLeDiff, Nat.reduceMul, t0, t3, t4, t5]
 refine Aq (Ku [0, 0, 0, 1, 2, 3, 4, 5] tc hid hw (by decide) (by decide)) rfl fun r H1 ⟨b, _, e, c1⟩ => ?_
 subst e
 have hcf : ∀ {H' : Hp}, CX H H' c id → K5 H' w.cf f.u f.s f.l f.p := fun h => ⟨q.u.cx hk (by decide) h, q.s.cx hk (by decide) h, q.l.cx hk (by decide) h, q.p.cx hk (by decide) h⟩
 simp only [go_sem, ↓reduceIte, Nat.reduceEqDiff, reduceCtorEq, Nat.reduceAdd, Nat.reduceLeDiff, Nat.reduceMul, t0, t3, t4, t5]
 refine Aa (fun m' h => cU (n := b) (hcf c1) m' h) rfl (hwx c1) fun r H2 ⟨⟨d, e1, _⟩, e2⟩ => ?_
 subst e1
 have e2 : H2 = H1 := e2
 subst e2
 simp only [go_sem, ↓reduceIte, Nat.reduceEqDiff, reduceCtorEq, Nat.reduceAdd, Nat.reduceLeDiff, Nat.reduceMul, t0, t3, t4, t5]
 refine Aq (Hd c1 hw) rfl fun r H3 ⟨b3, e, c3⟩ => ?_
 subst e
 simp only [go_sem, ↓reduceIte, Nat.reduceEqDiff, reduceCtorEq, Nat.reduceAdd, Nat.reduceLeDiff, Nat.reduceMul, t0, t3, t4, t5]
 refine Bq (fun t => CX H t.H c id ∧ t.ρ 0 = .val c ∧ (∃ g, t.ρ 3 = .bx g (M4 w f)) ∧ (∃ g, t.ρ 4 = .bx g z9) ∧ t.ρ 5 = .val (.int .i64 a) ∧ t.ρ 6 = .val (.int .i64 b) ∧ ∃ d, t.ρ 7 = .val (.int .i64 d)) (fun q1 => ?_) (fun q1 => ?_) ?_
 ·simp only [go_sem, ↓reduceIte, Nat.reduceEqDiff, reduceCtorEq, Nat.reduceAdd, Nat.reduceLeDiff, Nat.reduceMul, t0, t3, t4, t5]
  refine Aq (Cs c3 hw) rfl fun r H4 ⟨x, e, _, _, c4⟩ => ?_
  subst e
  simp only [go_sem, ↓reduceIte, Nat.reduceEqDiff, reduceCtorEq, Nat.reduceAdd, Nat.reduceLeDiff, Nat.reduceMul, t0, t3, t4, t5]
  exact ⟨c4, ⟨_, rfl⟩, ⟨_, rfl⟩, _, rfl⟩
 ·simp only [go_sem, ↓reduceIte, Nat.reduceEqDiff, reduceCtorEq, Nat.reduceAdd, Nat.reduceLeDiff, Nat.reduceMul, t0, t3, t4, t5]
  exact ⟨c3, ⟨_, rfl⟩, ⟨_, rfl⟩, _, rfl⟩
 clear t0 t3 t4 t5 tc c1 c3
 rintro t ⟨tc, t0, ⟨g3, t3⟩, ⟨g4, t4⟩, t5, t6, d, t7⟩
 simp only [go_sem, ↓reduceIte, Nat.reduceEqDiff, reduceCtorEq, Nat.reduceAdd, Nat.reduceLeDiff, Nat.reduceMul, t0, t3, t4, t5, t6, t7]
 refine Aq (Cs tc hw) rfl fun r H1 ⟨n, e, _, _, c1⟩ => ?_
 subst e
 have fin : ∀ {H' : Hp} (x : Ac), CX H H' c id → x.tx.size ≤ 1000 → AcX H0 c id (dX x) (H'.take H.length) := fun x h hx => ⟨x, rfl, hx, hc.trans (h.trim hid)⟩
 simp only [go_sem, ↓reduceIte, Nat.reduceEqDiff, reduceCtorEq, Nat.reduceAdd, Nat.reduceLeDiff, Nat.reduceMul, t0, t3, t4, t5, t6, t7]
 cases n0 : decide (n = 0) <;> simp only [go_sem, ↓reduceIte, Nat.reduceEqDiff, reduceCtorEq, Nat.reduceAdd, Nat.reduceLeDiff, Nat.reduceMul, t0, t3, t4, t5, t6, t7]
 rotate_left
 ·exact ⟨rfl, fin ⟨1, 0, 0, 0, 0, (0, 0, 0), ⟨#[]⟩⟩ c1 (Nat.zero_le _)⟩
 cases n1 : decide (n = 1) <;> simp only [go_sem, ↓reduceIte, Nat.reduceEqDiff, reduceCtorEq, Nat.reduceAdd, Nat.reduceLeDiff, Nat.reduceMul, t0, t3, t4, t5, t6, t7]
 rotate_left
 ·refine Aq (Ku [1, 2, 3, 11, 12, 13, 21, 22, 23, 32, 34, 5] c1 hid hw (by decide) (by decide)) rfl fun r H2 ⟨x, _, e, c2⟩ => ?_
  subst e
  simp only [go_sem, ↓reduceIte, Nat.reduceEqDiff, reduceCtorEq, Nat.reduceAdd, Nat.reduceLeDiff, Nat.reduceMul, t0, t3, t4, t5, t6, t7]
  exact ⟨rfl, fin ⟨8, x, 0, 0, 0, (0, 0, 0), ⟨#[]⟩⟩ c2 (Nat.zero_le _)⟩
 cases n2 : decide (n = 2) <;> simp only [go_sem, ↓reduceIte, Nat.reduceEqDiff, reduceCtorEq, Nat.reduceAdd, Nat.reduceLeDiff, Nat.reduceMul, t0, t3, t4, t5, t6, t7]
 rotate_left
 ·refine Aq (qD (q.cx c1 hk) hi ((A2 hid).trans hk) c1 (hwx c1) hw) rfl fun r H2 ⟨s, e, hs, c2⟩ => ?_
  subst e
  simp only [go_sem, ↓reduceIte, Nat.reduceEqDiff, reduceCtorEq, Nat.reduceAdd, Nat.reduceLeDiff, Nat.reduceMul, t0, t3, t4, t5, t6, t7]
  exact ⟨rfl, fin ⟨9, 0, 0, 0, 0, (0, 0, 0), s⟩ c2 hs⟩
 cases n3 : decide (n = 3) <;> simp only [go_sem, ↓reduceIte, Nat.reduceEqDiff, reduceCtorEq, Nat.reduceAdd, Nat.reduceLeDiff, Nat.reduceMul, t0, t3, t4, t5, t6, t7]
 rotate_left
 ·refine Aq (Cs c1 hw) rfl fun r H2 ⟨x, e, _, _, c2⟩ => ?_
  subst e
  simp only [go_sem, ↓reduceIte, Nat.reduceEqDiff, reduceCtorEq, Nat.reduceAdd, Nat.reduceLeDiff, Nat.reduceMul, t0, t3, t4, t5, t6, t7]
  exact ⟨rfl, fin ⟨10, x, 0, 0, 0, (0, 0, 0), ⟨#[]⟩⟩ c2 (Nat.zero_le _)⟩
 refine Bq (fun t => t.H = H1 ∧ t.ρ 0 = .val c ∧ (∃ g, t.ρ 3 = .bx g (M4 w f)) ∧ (∃ g, t.ρ 4 = .bx g z9) ∧ t.ρ 5 = .val (.int .i64 a) ∧ t.ρ 6 = .val (.int .i64 b) ∧ t.ρ 7 = .val (.int .i64 d) ∧ t.ρ 38 = .val (.int .i64 n) ∧ ∃ z, t.ρ 59 = .val (.bool z)) (fun q1 => ?_) (fun q1 => ?_) ?_
 ·simp only [go_sem, ↓reduceIte, Nat.reduceEqDiff, reduceCtorEq, Nat.reduceAdd, Nat.reduceLeDiff, Nat.reduceMul, t0, t3, t4, t5, t6, t7]
  exact ⟨⟨_, rfl⟩, ⟨_, rfl⟩, _, rfl⟩
 ·simp only [go_sem, ↓reduceIte, Nat.reduceEqDiff, reduceCtorEq, Nat.reduceAdd, Nat.reduceLeDiff, Nat.reduceMul, t0, t3, t4, t5, t6, t7]
  cases q5 : decide (n = 5) <;> simp only [go_sem, ↓reduceIte, Nat.reduceEqDiff, reduceCtorEq, Nat.reduceAdd, Nat.reduceLeDiff, Nat.reduceMul, t0, t3, t4, t5, t6, t7]
  rotate_left
  ·exact ⟨⟨_, rfl⟩, ⟨_, rfl⟩, _, rfl⟩
  cases q6 : decide (n = 6) <;> simp only [go_sem, ↓reduceIte, Nat.reduceEqDiff, reduceCtorEq, Nat.reduceAdd, Nat.reduceLeDiff, Nat.reduceMul, t0, t3, t4, t5, t6, t7]
  rotate_left
  ·exact ⟨⟨_, rfl⟩, ⟨_, rfl⟩, _, rfl⟩
  exact ⟨⟨_, rfl⟩, ⟨_, rfl⟩, _, rfl⟩
 clear t0 t3 t4 t5 t6 t7
 rintro t ⟨tH, t0, ⟨g3, t3⟩, ⟨g4, t4⟩, t5, t6, t7, t38, z, t59⟩
 simp only [go_sem, ↓reduceIte, Nat.reduceEqDiff, reduceCtorEq, Nat.reduceAdd, Nat.reduceLeDiff, Nat.reduceMul, t0, t3, t4, t5, t6, t7, t38, t59]
 cases z <;> simp only [go_sem, ↓reduceIte, Nat.reduceEqDiff, reduceCtorEq, Nat.reduceAdd, Nat.reduceLeDiff, Nat.reduceMul, t0, t3, t4, t5, t6, t7, t38, t59]
 rotate_left
 ·refine Aq (Cs c1 hw) tH fun r H2 ⟨x, e, _, _, c2⟩ => ?_
  subst e
  simp only [go_sem, ↓reduceIte, Nat.reduceEqDiff, reduceCtorEq, Nat.reduceAdd, Nat.reduceLeDiff, Nat.reduceMul, t0, t3, t4, t5, t6, t7, t38]
  refine Aq (Ku [d, d, x] c2 hid hw (by simp) (by simp)) rfl fun r H3 ⟨y, _, e, c3⟩ => ?_
  subst e
  simp only [go_sem, ↓reduceIte, Nat.reduceEqDiff, reduceCtorEq, Nat.reduceAdd, Nat.reduceLeDiff, Nat.reduceMul, t0, t3, t4, t5, t6, t7, t38]
  exact ⟨rfl, fin ⟨4, y, a, 0, 0, (0, 0, 0), ⟨#[]⟩⟩ c3 (Nat.zero_le _)⟩
 refine Bq (fun t => t.H = H1 ∧ t.ρ 0 = .val c ∧ (∃ g, t.ρ 3 = .bx g (M4 w f)) ∧ (∃ g, t.ρ 4 = .bx g z9) ∧ t.ρ 5 = .val (.int .i64 a) ∧ t.ρ 6 = .val (.int .i64 b) ∧ t.ρ 7 = .val (.int .i64 d) ∧ t.ρ 38 = .val (.int .i64 n) ∧ ∃ z, t.ρ 73 = .val (.bool z)) (fun q1 => ?_) (fun q1 => ?_) ?_
 ·simp only [go_sem, ↓reduceIte, Nat.reduceEqDiff, reduceCtorEq, Nat.reduceAdd, Nat.reduceLeDiff, Nat.reduceMul, t0, t3, t4, t5, t6, t7, t38]
  exact ⟨tH, ⟨_, rfl⟩, ⟨_, rfl⟩, _, rfl⟩
 ·simp only [go_sem, ↓reduceIte, Nat.reduceEqDiff, reduceCtorEq, Nat.reduceAdd, Nat.reduceLeDiff, Nat.reduceMul, t0, t3, t4, t5, t6, t7, t38]
  cases q9 : decide (n = 9) <;> simp only [go_sem, ↓reduceIte, Nat.reduceEqDiff, reduceCtorEq, Nat.reduceAdd, Nat.reduceLeDiff, Nat.reduceMul, t0, t3, t4, t5, t6, t7, t38]
  rotate_left
  ·exact ⟨tH, ⟨_, rfl⟩, ⟨_, rfl⟩, _, rfl⟩
  cases q10 : decide (n = 10) <;> simp only [go_sem, ↓reduceIte, Nat.reduceEqDiff, reduceCtorEq, Nat.reduceAdd, Nat.reduceLeDiff, Nat.reduceMul, t0, t3, t4, t5, t6, t7, t38]
  rotate_left
  ·exact ⟨tH, ⟨_, rfl⟩, ⟨_, rfl⟩, _, rfl⟩
  exact ⟨tH, ⟨_, rfl⟩, ⟨_, rfl⟩, _, rfl⟩
 clear t0 t3 t4 t5 t6 t7 t38 tH
 rintro t ⟨tH, t0, ⟨g3, t3⟩, ⟨g4, t4⟩, t5, t6, t7, t38, z, t73⟩
 simp only [go_sem, ↓reduceIte, Nat.reduceEqDiff, reduceCtorEq, Nat.reduceAdd, Nat.reduceLeDiff, Nat.reduceMul, t0, t3, t4, t5, t6, t7, t38, t73]
 cases z <;> simp only [go_sem, ↓reduceIte, Nat.reduceEqDiff, reduceCtorEq, Nat.reduceAdd, Nat.reduceLeDiff, Nat.reduceMul, t0, t3, t4, t5, t6, t7, t38, t73]
 rotate_left
 ·refine Ak 6 (fun i u => CX H u.H c id ∧ u.ρ 0 = .val c ∧ (∃ g, u.ρ 3 = .bx g (M4 w f)) ∧ (∃ g, u.ρ 4 = .bx g z9) ∧ u.ρ 5 = .val (.int .i64 a) ∧ (∃ z, u.ρ 6 = .val (.int .i64 z)) ∧ u.ρ 8 = .val (.int .i64 i)) (fun u => CX H u.H c id ∧ (∃ g, u.ρ 4 = .bx g z9) ∧ u.ρ 5 = .val (.int .i64 a) ∧ ∃ z, u.ρ 6 = .val (.int .i64 z)) ?_ ?_ ?_
  ·exact ⟨by rw [tH]; exact c1, by simp [Ah, t0], ⟨g3, by simp [Ah, t3]⟩, ⟨g4, by simp [Ah, t4]⟩, by simp [Ah, t5], ⟨b, by simp [Ah, t6]⟩, by simp [Ah]⟩
  ·rintro i u hi ⟨uc, u0, ⟨j3, u3⟩, ⟨j4, u4⟩, u5, ⟨z, u6⟩, u8⟩
   simp only [go_sem, ↓reduceIte, Nat.reduceEqDiff, reduceCtorEq, Nat.reduceAdd, Nat.reduceLeDiff, Nat.reduceMul, u0, u3, u4, u5, u6, u8]
   cases qq : decide ((i : Int) < 6) <;> simp only [go_sem, ↓reduceIte, Nat.reduceEqDiff, reduceCtorEq, Nat.reduceAdd, Nat.reduceLeDiff, Nat.reduceMul, u0, u3, u4, u5, u6, u8]
   ·exact ⟨uc, ⟨_, rfl⟩, _, rfl⟩
   have qq := As qq
   have wi := Ab ((i : Int) + 1) (by omega) (by omega)
   have hil : i < w.wts.length := by rw [hi0.wl]; omega
   obtain ⟨i2, p2, o2, ho2, hr2, hp2, hia2⟩ := (qa.cx hk (by decide) uc).elem (i := i) (B7 hil)
   generalize w.wts[i] = y at hr2
   have hr2 : (o2.drop p2).take 4 = bL y := hr2
   have r0 := Al hr2 (j := 0) (by omega)
   simp only [Nat.add_zero, bL, List.getElem?_cons_zero] at r0
   simp only [go_sem, ↓reduceIte, Nat.reduceEqDiff, reduceCtorEq, Nat.reduceAdd, Nat.reduceLeDiff, Nat.reduceMul, u0, u3, u4, u5, u6, u8, hia2, ho2, r0]
   obtain ⟨y1, y2⟩ := y
   cases y1 <;> simp only [go_sem, ↓reduceIte, Nat.reduceEqDiff, reduceCtorEq, Nat.reduceAdd, Nat.reduceLeDiff, Nat.reduceMul, u0, u3, u4, u5, u6, u8, wi]
   ·exact ⟨by omega, uc, ⟨_, rfl⟩, ⟨_, rfl⟩, ⟨_, rfl⟩, by simp⟩
   refine Aq (Hd uc hw) rfl fun r H2 ⟨b2, e, c2⟩ => ?_
   subst e
   cases b2 <;> simp only [go_sem, ↓reduceIte, Nat.reduceEqDiff, reduceCtorEq, Nat.reduceAdd, Nat.reduceLeDiff, Nat.reduceMul, u0, u3, u4, u5, u6, u8, wi]
   ·exact ⟨by omega, c2, ⟨_, rfl⟩, ⟨_, rfl⟩, ⟨_, rfl⟩, by simp⟩
   ·exact ⟨by omega, c2, ⟨_, rfl⟩, ⟨_, rfl⟩, ⟨_, rfl⟩, by simp⟩
  ·rintro u ⟨uc, ⟨j4, u4⟩, u5, z, u6⟩
   simp only [go_sem, ↓reduceIte, Nat.reduceEqDiff, reduceCtorEq, Nat.reduceAdd, Nat.reduceLeDiff, Nat.reduceMul, u4, u5, u6]
   exact ⟨rfl, fin ⟨5, z, a, 0, 0, (0, 0, 0), ⟨#[]⟩⟩ uc (Nat.zero_le _)⟩
 refine Bq (fun t => t.H = H1 ∧ t.ρ 0 = .val c ∧ (∃ g, t.ρ 3 = .bx g (M4 w f)) ∧ (∃ g, t.ρ 4 = .bx g z9) ∧ t.ρ 5 = .val (.int .i64 a) ∧ t.ρ 6 = .val (.int .i64 b) ∧ t.ρ 7 = .val (.int .i64 d) ∧ t.ρ 38 = .val (.int .i64 n) ∧ ∃ z, t.ρ 97 = .val (.bool z)) (fun q1 => ?_) (fun q1 => ?_) ?_
 ·simp only [go_sem, ↓reduceIte, Nat.reduceEqDiff, reduceCtorEq, Nat.reduceAdd, Nat.reduceLeDiff, Nat.reduceMul, t0, t3, t4, t5, t6, t7, t38]
  exact ⟨tH, ⟨_, rfl⟩, ⟨_, rfl⟩, _, rfl⟩
 ·simp only [go_sem, ↓reduceIte, Nat.reduceEqDiff, reduceCtorEq, Nat.reduceAdd, Nat.reduceLeDiff, Nat.reduceMul, t0, t3, t4, t5, t6, t7, t38]
  cases q13 : decide (n = 13) <;> simp only [go_sem, ↓reduceIte, Nat.reduceEqDiff, reduceCtorEq, Nat.reduceAdd, Nat.reduceLeDiff, Nat.reduceMul, t0, t3, t4, t5, t6, t7, t38]
  rotate_left
  ·exact ⟨tH, ⟨_, rfl⟩, ⟨_, rfl⟩, _, rfl⟩
  exact ⟨tH, ⟨_, rfl⟩, ⟨_, rfl⟩, _, rfl⟩
 clear t0 t3 t4 t5 t6 t7 t38 tH
 rintro t ⟨tH, t0, ⟨g3, t3⟩, ⟨g4, t4⟩, t5, t6, t7, t38, z, t97⟩
 simp only [go_sem, ↓reduceIte, Nat.reduceEqDiff, reduceCtorEq, Nat.reduceAdd, Nat.reduceLeDiff, Nat.reduceMul, t0, t3, t4, t5, t6, t7, t38, t97]
 cases z <;> simp only [go_sem, ↓reduceIte, Nat.reduceEqDiff, reduceCtorEq, Nat.reduceAdd, Nat.reduceLeDiff, Nat.reduceMul, t0, t3, t4, t5, t6, t7, t38, t97]
 rotate_left
 ·refine Aq (Cs c1 hw) tH fun r H2 ⟨x, e, _, _, c2⟩ => ?_
  subst e
  simp only [go_sem, ↓reduceIte, Nat.reduceEqDiff, reduceCtorEq, Nat.reduceAdd, Nat.reduceLeDiff, Nat.reduceMul, t0, t3, t4, t5, t6, t7, t38]
  exact ⟨rfl, fin ⟨7, x, a, 0, 0, (0, 0, 0), ⟨#[]⟩⟩ c2 (Nat.zero_le _)⟩
 refine Bq (fun t => t.H = H1 ∧ t.ρ 0 = .val c ∧ (∃ g, t.ρ 3 = .bx g (M4 w f)) ∧ (∃ g, t.ρ 4 = .bx g z9) ∧ t.ρ 5 = .val (.int .i64 a) ∧ t.ρ 6 = .val (.int .i64 b) ∧ t.ρ 7 = .val (.int .i64 d) ∧ t.ρ 38 = .val (.int .i64 n) ∧ ∃ z, t.ρ 105 = .val (.bool z)) (fun q1 => ?_) (fun q1 => ?_) ?_
 ·simp only [go_sem, ↓reduceIte, Nat.reduceEqDiff, reduceCtorEq, Nat.reduceAdd, Nat.reduceLeDiff, Nat.reduceMul, t0, t3, t4, t5, t6, t7, t38]
  exact ⟨tH, ⟨_, rfl⟩, ⟨_, rfl⟩, _, rfl⟩
 ·simp only [go_sem, ↓reduceIte, Nat.reduceEqDiff, reduceCtorEq, Nat.reduceAdd, Nat.reduceLeDiff, Nat.reduceMul, t0, t3, t4, t5, t6, t7, t38]
  exact ⟨tH, ⟨_, rfl⟩, ⟨_, rfl⟩, _, rfl⟩
 clear t0 t3 t4 t5 t6 t7 t38 tH
 rintro t ⟨tH, t0, ⟨g3, t3⟩, ⟨g4, t4⟩, t5, t6, t7, t38, z, t105⟩
 simp only [go_sem, ↓reduceIte, Nat.reduceEqDiff, reduceCtorEq, Nat.reduceAdd, Nat.reduceLeDiff, Nat.reduceMul, t0, t3, t4, t5, t6, t7, t38, t105]
 cases z <;> simp only [go_sem, ↓reduceIte, Nat.reduceEqDiff, reduceCtorEq, Nat.reduceAdd, Nat.reduceLeDiff, Nat.reduceMul, t0, t3, t4, t5, t6, t7, t38, t105]
 rotate_left
 ·refine ⟨rfl, ?_⟩
  rw [tH]
  exact fin ⟨2, b, 0, 0, 0, (0, 0, 0), ⟨#[]⟩⟩ c1 (Nat.zero_le _)
 refine Bq (fun t => t.H = H1 ∧ t.ρ 0 = .val c ∧ (∃ g, t.ρ 3 = .bx g (M4 w f)) ∧ (∃ g, t.ρ 4 = .bx g z9) ∧ t.ρ 5 = .val (.int .i64 a) ∧ t.ρ 6 = .val (.int .i64 b) ∧ t.ρ 7 = .val (.int .i64 d) ∧ t.ρ 38 = .val (.int .i64 n) ∧ ∃ z, t.ρ 110 = .val (.bool z)) (fun q1 => ?_) (fun q1 => ?_) ?_
 ·simp only [go_sem, ↓reduceIte, Nat.reduceEqDiff, reduceCtorEq, Nat.reduceAdd, Nat.reduceLeDiff, Nat.reduceMul, t0, t3, t4, t5, t6, t7, t38]
  exact ⟨tH, ⟨_, rfl⟩, ⟨_, rfl⟩, _, rfl⟩
 ·simp only [go_sem, ↓reduceIte, Nat.reduceEqDiff, reduceCtorEq, Nat.reduceAdd, Nat.reduceLeDiff, Nat.reduceMul, t0, t3, t4, t5, t6, t7, t38]
  exact ⟨tH, ⟨_, rfl⟩, ⟨_, rfl⟩, _, rfl⟩
 clear t0 t3 t4 t5 t6 t7 t38 tH
 rintro t ⟨tH, t0, ⟨g3, t3⟩, ⟨g4, t4⟩, t5, t6, t7, t38, z, t110⟩
 simp only [go_sem, ↓reduceIte, Nat.reduceEqDiff, reduceCtorEq, Nat.reduceAdd, Nat.reduceLeDiff, Nat.reduceMul, t0, t3, t4, t5, t6, t7, t38, t110]
 cases z <;> simp only [go_sem, ↓reduceIte, Nat.reduceEqDiff, reduceCtorEq, Nat.reduceAdd, Nat.reduceLeDiff, Nat.reduceMul, t0, t3, t4, t5, t6, t7, t38, t110]
 rotate_left
 ·refine Aq (fR (q.cx c1 hk) ((A2 hid).trans hk) c1 hw) tH fun r H2 ⟨x, e, c2⟩ => ?_
  subst e
  simp only [go_sem, ↓reduceIte, Nat.reduceEqDiff, reduceCtorEq, Nat.reduceAdd, Nat.reduceLeDiff, Nat.reduceMul, t0, t3, t4, t5, t6, t7, t38]
  refine Aq (Cs c2 hw) rfl fun r H3 ⟨y, e, _, _, c3⟩ => ?_
  subst e
  simp only [go_sem, ↓reduceIte, Nat.reduceEqDiff, reduceCtorEq, Nat.reduceAdd, Nat.reduceLeDiff, Nat.reduceMul, t0, t3, t4, t5, t6, t7, t38]
  exact ⟨rfl, fin ⟨6, b, x, y, 0, (0, 0, 0), ⟨#[]⟩⟩ c3 (Nat.zero_le _)⟩
 refine Aq (fR (q.cx c1 hk) ((A2 hid).trans hk) c1 hw) tH fun r H2 ⟨x, e, c2⟩ => ?_
 subst e
 simp only [go_sem, ↓reduceIte, Nat.reduceEqDiff, reduceCtorEq, Nat.reduceAdd, Nat.reduceLeDiff, Nat.reduceMul, t0, t3, t4, t5, t6, t7, t38]
 refine Aq (Cs c2 hw) rfl fun r H3 ⟨y, e, _, _, c3⟩ => ?_
 subst e
 simp only [go_sem, ↓reduceIte, Nat.reduceEqDiff, reduceCtorEq, Nat.reduceAdd, Nat.reduceLeDiff, Nat.reduceMul, t0, t3, t4, t5, t6, t7, t38]
 refine Aq (Hd c3 hw) rfl fun r H4 ⟨b4, e, c4⟩ => ?_
 subst e
 simp only [go_sem, ↓reduceIte, Nat.reduceEqDiff, reduceCtorEq, Nat.reduceAdd, Nat.reduceLeDiff, Nat.reduceMul, t0, t3, t4, t5, t6, t7, t38]
 refine Bq (fun t => CX H t.H c id ∧ t.ρ 0 = .val c ∧ (∃ g, t.ρ 3 = .bx g (M4 w f)) ∧ (∃ g, t.ρ 4 = .bx g z9) ∧ t.ρ 6 = .val (.int .i64 b) ∧ ∃ g x, t.ρ 9 = .bx g (Pc x) ∧ x.tx.size ≤ 1000) (fun q1 => ?_) (fun q1 => ?_) ?_
 ·simp only [go_sem, ↓reduceIte, Nat.reduceEqDiff, reduceCtorEq, Nat.reduceAdd, Nat.reduceLeDiff, Nat.reduceMul, t0, t3, t4, t5, t6, t7, t38]
  refine Aq (fO c4 hw) rfl fun r H5 ⟨z, e, c5⟩ => ?_
  subst e
  simp only [go_sem, ↓reduceIte, Nat.reduceEqDiff, reduceCtorEq, Nat.reduceAdd, Nat.reduceLeDiff, Nat.reduceMul, t0, t3, t4, t5, t6, t7, t38]
  exact ⟨c5, ⟨_, rfl⟩, ⟨_, rfl⟩, _, ⟨3, b, x, y, 0, z, ⟨#[]⟩⟩, rfl, Nat.zero_le _⟩
 ·simp only [go_sem, ↓reduceIte, Nat.reduceEqDiff, reduceCtorEq, Nat.reduceAdd, Nat.reduceLeDiff, Nat.reduceMul, t0, t3, t4, t5, t6, t7, t38]
  exact ⟨c4, ⟨_, rfl⟩, ⟨_, rfl⟩, _, ⟨3, b, x, y, 0, (7, 255, 90), ⟨#[]⟩⟩, rfl, Nat.zero_le _⟩
 clear t0 t3 t4 t5 t6 t7 t38 tH
 rintro t ⟨tc, t0, ⟨g3, t3⟩, ⟨g4, t4⟩, t6, g9, x, t9, hx9⟩
 simp only [go_sem, ↓reduceIte, Nat.reduceEqDiff, reduceCtorEq, Nat.reduceAdd, Nat.reduceLeDiff, Nat.reduceMul, t0, t3, t4, t6, t9]
 have lx := qx.1.room
 unfold Ev.room at lx
 refine Ak w.acs.length (fun i u => CX H u.H c id ∧ u.ρ 0 = .val c ∧ (∃ g, u.ρ 3 = .bx g (M4 w f)) ∧ (∃ g, u.ρ 4 = .bx g z9) ∧ u.ρ 6 = .val (.int .i64 b) ∧ u.ρ 10 = .val (.int .i64 i) ∧ ∃ g x, u.ρ 9 = .bx g (Pc x) ∧ x.tx.size ≤ 1000) (fun u => CX H u.H c id ∧ (∃ g, u.ρ 4 = .bx g z9) ∧ ∃ g x, u.ρ 9 = .bx g (Pc x) ∧ x.tx.size ≤ 1000) ?_ ?_ ?_
 ·exact ⟨tc, by simp [Ah, t0], ⟨g3, by simp [Ah, t3]⟩, ⟨g4, by simp [Ah, t4]⟩, by simp [Ah, t6], by simp [Ah], g9, x, by simp [Ah, t9], hx9⟩
 ·clear t0 t3 t4 t6 t9 tc hx9
  rintro i u hi ⟨uc, u0, ⟨j3, u3⟩, ⟨j4, u4⟩, u6, u8, g9, x, u9, hx9⟩
  have qu := qx.cx hk (by decide) uc
  simp only [go_sem, ↓reduceIte, Nat.reduceEqDiff, reduceCtorEq, Nat.reduceAdd, Nat.reduceLeDiff, Nat.reduceMul, u0, u3, u4, u6, u8, u9, qu.len]
  cases qq : decide ((i : Int) < w.acs.length) <;> simp only [go_sem, ↓reduceIte, Nat.reduceEqDiff, reduceCtorEq, Nat.reduceAdd, Nat.reduceLeDiff, Nat.reduceMul, u0, u3, u4, u6, u8, u9]
  ·exact ⟨uc, ⟨_, rfl⟩, _, x, rfl, hx9⟩
  have qq := As qq
  have wi := Ab ((i : Int) + 1) (by omega) (by omega)
  have hil : i < w.acs.length := by omega
  obtain ⟨i2, p2, o2, ho2, hr2, hp2, hia2⟩ := qu.elem (i := i) (B7 hil)
  obtain ⟨pa, va, hr2, _⟩ := hr2
  have r0 := Al hr2 (j := 0) (by omega)
  simp only [Nat.add_zero, List.getElem?_cons_zero] at r0
  simp only [go_sem, ↓reduceIte, Nat.reduceEqDiff, reduceCtorEq, Nat.reduceAdd, Nat.reduceLeDiff, Nat.reduceMul, u0, u3, u4, u6, u8, u9, hia2, ho2, r0]
  generalize hy : decide (w.acs[i].sv = IntKind.i64.wrap (b - 3)) = y
  cases y <;> simp only [go_sem, ↓reduceIte, Nat.reduceEqDiff, reduceCtorEq, Nat.reduceAdd, Nat.reduceLeDiff, Nat.reduceMul, u0, u3, u4, u6, u8, u9, wi]
  ·exact ⟨by omega, uc, ⟨_, rfl⟩, ⟨_, rfl⟩, by simp, _, x, rfl, hx9⟩
  refine Aq (Hd uc hw) rfl fun r H2 ⟨b2, e, c2⟩ => ?_
  subst e
  cases b2 <;> simp only [go_sem, ↓reduceIte, Nat.reduceEqDiff, reduceCtorEq, Nat.reduceAdd, Nat.reduceLeDiff, Nat.reduceMul, u0, u3, u4, u6, u8, u9, wi]
  ·exact ⟨by omega, c2, ⟨_, rfl⟩, ⟨_, rfl⟩, by simp, _, ⟨x.kd, x.a, x.b, x.c, (i : Int) + 1, x.rs, x.tx⟩, rfl, hx9⟩
  ·exact ⟨by omega, c2, ⟨_, rfl⟩, ⟨_, rfl⟩, by simp, _, x, rfl, hx9⟩
 ·clear t0 t3 t4 t6 t9 tc hx9
  rintro u ⟨uc, ⟨j4, u4⟩, g9, x, u9, hx9⟩
  simp only [go_sem, ↓reduceIte, Nat.reduceEqDiff, reduceCtorEq, Nat.reduceAdd, Nat.reduceLeDiff, Nat.reduceMul, u4, u9]
  exact ⟨rfl, fin x uc hx9⟩
structure Rx (κ : Nat → Nat) (n0 : Nat) (H : Hp) (c : Ic) (u s l p : Value) : Prop where
 z : ∀ j, j < n0 → κ j = 99
 u : C9 κ 1 (En eI) 1 H u c.ur
 s : C9 κ 2 (En eI) 1 H s c.sr
 l : C9 κ 3 (En Ud) 2 H l c.lk
 p : C9 κ 4 (En Ud) 2 H p c.px
theorem Rx.cx {κ : Nat → Nat} {n0 : Nat} {H H' : Hp} {cf : Ic} {u s l p c : Value} {id : Nat} (h : Rx κ n0 H cf u s l p) (hid : id < n0) (hn : n0 ≤ H.length) (k : CX H H' c id) : Rx (Cm κ H.length 99) n0 H' cf u s l p :=
 have e := k.kee (h.z id hid)
 ⟨fun j hj => (A2 (J3 hj hn)).trans (h.z j hj), h.u.keep e (by decide) fun _ _ h => h, h.s.keep e (by decide) fun _ _ h => h, h.l.keep e (by decide) fun _ _ h => h, h.p.keep e (by decide) fun _ _ h => h⟩
theorem Rx.base {κ : Nat → Nat} {n0 : Nat} {H : Hp} {cf : Ic} {u s l p : Value} (h : Rx κ n0 H cf u s l p) : K5 H cf u s l p := ⟨h.u.1, h.s.1, h.l.1, h.p.1⟩
theorem C9.own {α : Type} {κ : Nat → Nat} {k n0 : Nat} {R : α → List Value → Prop} {esz : Nat} {H : Hp} {v : Value} {l : List α} (h : C9 κ k R esz H v l) (hz : ∀ j, j < n0 → κ j = 99) (hk : k ≠ 99) : Ao n0 v :=
 Ur h.2.2 fun j hj => Nat.le_of_not_lt fun hl => hk ((h.2.1 j hj).symm.trans (hz j hl))
theorem Kh.cxo {κ κ' : Nat → Nat} {H0 H H' : Hp} {c : Value} {id k : Nat} (e : Kh κ κ' H H' k) (h : CX H0 H c id) (hid : id < H0.length) (hz : ∀ j, j < H0.length → κ j = 99) (hk : k ≠ 99) : CX H0 H' c id :=
 h.own hid (fun j hj => e.row j (J3 hj h.2.2) fun e => hk (e.symm.trans (hz j hj))) e.len
theorem Rx.addU {m : Md} {κ : Nat → Nat} {n0 : Nat} {H : Hp} {cf : Ic} {u s l p : Value} (a : Int) (h : Rx κ n0 H cf u s l p) (hn : n0 ≤ H.length) (hw : ∀ j, n0 ≤ j → m.wr j = true) (hb : cf.ur.length ≤ 1000) :
  ∃ u' H' κ', (∀ (s : St) (x y : X), s.H = H → Av s.ρ x = some u → ex s.ρ y = .vs 1 [.int .i64 a] → Ce m s 1 8 x y = some (.val u', { s with H := H' })) ∧ Rx κ' n0 H' { cf with ur := cf.ur ++ [a] } u' s l p ∧ Kh κ κ' H H' 1 := by
 obtain ⟨u', H', a1, a2, a3, a4⟩ := h.u.app1 (m := m) (bytes := 8) (a := a) (cs := [.int .i64 a]) (fun j hj => hw j (C8 hn hj)) (fun j hj => hw j (Bc (h.u.own h.z (by decide)) j hj)) (fun _ => rfl) rfl rfl (by unfold Ev.room; omega) (by unfold Ev.room; omega)
 exact ⟨u', H', _, a1, ⟨fun j hj => (A2 (J3 hj hn)).trans (h.z j hj), a2, h.s.keep a3 (by decide) fun _ _ h => h, h.l.keep a3 (by decide) fun _ _ h => h, h.p.keep a3 (by decide) fun _ _ h => h⟩, a3⟩
theorem Rx.addS {m : Md} {κ : Nat → Nat} {n0 : Nat} {H : Hp} {cf : Ic} {u s l p : Value} (a : Int) (h : Rx κ n0 H cf u s l p) (hn : n0 ≤ H.length) (hw : ∀ j, n0 ≤ j → m.wr j = true) (hb : cf.sr.length ≤ 1000) :
  ∃ s' H' κ', (∀ (t : St) (x y : X), t.H = H → Av t.ρ x = some s → ex t.ρ y = .vs 1 [.int .i64 a] → Ce m t 1 8 x y = some (.val s', { t with H := H' })) ∧ Rx κ' n0 H' { cf with sr := cf.sr ++ [a] } u s' l p ∧ Kh κ κ' H H' 2 := by
 obtain ⟨u', H', a1, a2, a3, a4⟩ := h.s.app1 (m := m) (bytes := 8) (a := a) (cs := [.int .i64 a]) (fun j hj => hw j (C8 hn hj)) (fun j hj => hw j (Bc (h.s.own h.z (by decide)) j hj)) (fun _ => rfl) rfl rfl (by unfold Ev.room; omega) (by unfold Ev.room; omega)
 exact ⟨u', H', _, a1, ⟨fun j hj => (A2 (J3 hj hn)).trans (h.z j hj), h.u.keep a3 (by decide) fun _ _ h => h, a2, h.l.keep a3 (by decide) fun _ _ h => h, h.p.keep a3 (by decide) fun _ _ h => h⟩, a3⟩
theorem Rx.addL {m : Md} {κ : Nat → Nat} {n0 : Nat} {H : Hp} {cf : Ic} {u s l p : Value} (a b : Int) (h : Rx κ n0 H cf u s l p) (hn : n0 ≤ H.length) (hw : ∀ j, n0 ≤ j → m.wr j = true) (hb : cf.lk.length ≤ 1000) :
  ∃ l' H' κ', (∀ (t : St) (x y : X), t.H = H → Av t.ρ x = some l → ex t.ρ y = .vs 1 [.int .i64 a, .int .i64 b] → Ce m t 2 16 x y = some (.val l', { t with H := H' })) ∧ Rx κ' n0 H' { cf with lk := cf.lk ++ [(a, b)] } u s l' p ∧ Kh κ κ' H H' 3 := by
 obtain ⟨u', H', a1, a2, a3, a4⟩ := h.l.app1 (m := m) (bytes := 16) (a := (a, b)) (cs := [.int .i64 a, .int .i64 b]) (fun j hj => hw j (C8 hn hj)) (fun j hj => hw j (Bc (h.l.own h.z (by decide)) j hj)) (fun _ => rfl) rfl rfl (by unfold Ev.room; omega) (by unfold Ev.room; omega)
 exact ⟨u', H', _, a1, ⟨fun j hj => (A2 (J3 hj hn)).trans (h.z j hj), h.u.keep a3 (by decide) fun _ _ h => h, h.s.keep a3 (by decide) fun _ _ h => h, a2, h.p.keep a3 (by decide) fun _ _ h => h⟩, a3⟩
theorem Rx.addP {m : Md} {κ : Nat → Nat} {n0 : Nat} {H : Hp} {cf : Ic} {u s l p : Value} (a b : Int) (h : Rx κ n0 H cf u s l p) (hn : n0 ≤ H.length) (hw : ∀ j, n0 ≤ j → m.wr j = true) (hb : cf.px.length ≤ 1000) :
  ∃ p' H' κ', (∀ (t : St) (x y : X), t.H = H → Av t.ρ x = some p → ex t.ρ y = .vs 1 [.int .i64 a, .int .i64 b] → Ce m t 2 16 x y = some (.val p', { t with H := H' })) ∧ Rx κ' n0 H' { cf with px := cf.px ++ [(a, b)] } u s l p' ∧ Kh κ κ' H H' 4 := by
 obtain ⟨u', H', a1, a2, a3, a4⟩ := h.p.app1 (m := m) (bytes := 16) (a := (a, b)) (cs := [.int .i64 a, .int .i64 b]) (fun j hj => hw j (C8 hn hj)) (fun j hj => hw j (Bc (h.p.own h.z (by decide)) j hj)) (fun _ => rfl) rfl rfl (by unfold Ev.room; omega) (by unfold Ev.room; omega)
 exact ⟨u', H', _, a1, ⟨fun j hj => (A2 (J3 hj hn)).trans (h.z j hj), h.u.keep a3 (by decide) fun _ _ h => h, h.s.keep a3 (by decide) fun _ _ h => h, h.l.keep a3 (by decide) fun _ _ h => h, a2⟩, a3⟩
abbrev z5 : List Value := [.slice none 0 0, .slice none 0 0, .slice none 0 0, .slice none 0 0, .int .i64 0]
def Rz (H : Hp) (c : Value) (id nu ns nl np : Nat) (t : St) : Prop := t.ρ 0 = .val c ∧ (∃ g, t.ρ 2 = .bx g z5) ∧ CX H t.H c id ∧ ∃ (g : Nat) (κ : Nat → Nat) (cf : Ic) (u s l p : Value), t.ρ 3 = .bx g [u, s, l, p, .int .i64 cf.skew] ∧ Rx κ H.length t.H cf u s l p ∧ cf.ur.length = nu ∧ cf.sr.length = ns ∧ cf.lk.length ≤ nl ∧ cf.px.length ≤ np
def CgX (H0 : Hp) (c : Value) (id : Nat) (r : Value) (H' : Hp) : Prop := ∃ (cf : Ic) (u s l p : Value), r = T3 cf u s l p ∧ K5 H' cf u s l p ∧ cf.ur.length ≤ 1000 ∧ cf.sr.length ≤ 1000 ∧ cf.lk.length ≤ 1000 ∧ cf.px.length ≤ 1000 ∧ (∀ v ∈ [u, s, l, p], Ao H0.length v) ∧ CX H0 H' c id
theorem xB {m : Md} {H : Hp} {c : Value} {id : Nat} (hc : K6 H c id) (hw0 : Wr m H) (hw : m.wr id = true) : Ci EE m 130 [c] H fun r H' => CgX H c id r H' := by
 have hid := hc.lt
 have hwx : ∀ {H' : Hp}, CX H H' c id → Wr m H' := fun h j hj => hw0 j (C8 h.2.2 hj)
 refine Bt rfl rfl Aay (by simp [nD]) ?_
 simp only [go_sem, ↓reduceIte, Nat.reduceEqDiff, reduceCtorEq, Nat.reduceAdd, Nat.reduceLeDiff, Nat.reduceMul, nD]
 refine Aq (Ku [0, 2, 5, 5, 20] (CX.refl hc) hid hw (by decide) (by decide)) rfl fun r H1 ⟨sk, _, e, c1⟩ => ?_
 subst e
 simp only [go_sem, ↓reduceIte, Nat.reduceEqDiff, reduceCtorEq, Nat.reduceAdd, Nat.reduceLeDiff, Nat.reduceMul]
 refine Ak 3 (fun i t => t.ρ 4 = .val (.int .i64 i) ∧ Rz H c id i 0 0 0 t) (fun t => Rz H c id 3 0 0 0 t) ?_ ?_ ?_
 ·exact ⟨by simp [Ah], by simp [Ah, Cb], ⟨1, by simp [Ah]⟩, c1, 2, fun j => 99, ⟨[], [], [], [], sk⟩, _, _, _, _, by simp [Ah], ⟨fun _ _ => rfl, Dy, Dy, Dy, Dy⟩, rfl, rfl, Nat.le_refl _, Nat.le_refl _⟩
 ·rintro i t hi ⟨t4, t0, ⟨g2, t2⟩, tc, g, κ, cf, u, s, l, p, t3, ck, nu, ns, nl, np⟩
  simp only [go_sem, ↓reduceIte, Nat.reduceEqDiff, reduceCtorEq, Nat.reduceAdd, Nat.reduceLeDiff, Nat.reduceMul, t0, t2, t3, t4]
  cases qq : decide ((i : Int) < 3) <;> simp only [go_sem, ↓reduceIte, Nat.reduceEqDiff, reduceCtorEq, Nat.reduceAdd, Nat.reduceLeDiff, Nat.reduceMul, t0, t2, t3, t4, Rz]
  ·have := Au qq
   exact ⟨⟨_, rfl⟩, tc, g, κ, cf, u, s, l, p, rfl, ck, by omega, ns, nl, np⟩
  have qq := As qq
  have wi := Ab ((i : Int) + 1) (by omega) (by omega)
  refine Af ?_
  simp only [go_sem, ↓reduceIte, Nat.reduceEqDiff, reduceCtorEq, Nat.reduceAdd, Nat.reduceLeDiff, Nat.reduceMul, t0, t2, t3, t4]
  refine Ap rfl (fun m' h hz _ => Cs (CX.refl tc.1) (hz id tc.1.arg hw)) rfl (hwx tc) fun r H2 ⟨y, e, _, _, c2⟩ => ?_
  subst e
  have ck2 := ck.cx hid tc.2.2 c2
  have c2 := tc.trans c2
  obtain ⟨u', H3, κ', a1, ck3, ke⟩ := ck2.addU (m := m) y c2.2.2 hw0 (by omega)
  have V1 := ck2.u.1.vc
  have V2 := ck3.u.1.vc
  simp only [go_sem, ↓reduceIte, Nat.reduceEqDiff, reduceCtorEq, Nat.reduceAdd, Nat.reduceLeDiff, Nat.reduceMul, t0, t2, t3, t4, V1]
  rw [a1]
  rotate_left
  ·rfl
  ·rfl
  ·rfl
  simp only [go_sem, ↓reduceIte, Nat.reduceEqDiff, reduceCtorEq, Nat.reduceAdd, Nat.reduceLeDiff, Nat.reduceMul, t0, t2, t3, t4, V1, V2]
  refine ⟨by rfl, ?_⟩
  simp only [go_sem, ↓reduceIte, Nat.reduceEqDiff, reduceCtorEq, Nat.reduceAdd, Nat.reduceLeDiff, Nat.reduceMul, t0, t2, t3, t4, wi]
  exact ⟨by omega, by simp, ⟨_, rfl⟩, ke.cxo c2 hid ck2.z (by decide), _, κ', { cf with ur := cf.ur ++ [y] }, u', s, l, p, rfl, ck3, by simp [nu], ns, nl, np⟩
 rintro t ⟨t0, ⟨g2, t2⟩, tc, g, κ, cf, u, s, l, p, t3, ck, nu, ns, nl, np⟩
 simp only [go_sem, ↓reduceIte, Nat.reduceEqDiff, reduceCtorEq, Nat.reduceAdd, Nat.reduceLeDiff, Nat.reduceMul, t0, t2, t3]
 refine Ak 3 (fun i t => t.ρ 5 = .val (.int .i64 i) ∧ Rz H c id 3 i 0 0 t) (fun t => Rz H c id 3 3 0 0 t) ?_ ?_ ?_
 ·exact ⟨by simp [Ah], by simp [Ah, t0], ⟨g2, by simp [Ah, t2]⟩, tc, g, κ, cf, u, s, l, p, by simp [Ah, t3], ck, nu, ns, nl, np⟩
 ·clear t0 t2 t3 tc ck nu ns nl np
  rintro i t hi ⟨t4, t0, ⟨g2, t2⟩, tc, g, κ, cf, u, s, l, p, t3, ck, nu, ns, nl, np⟩
  simp only [go_sem, ↓reduceIte, Nat.reduceEqDiff, reduceCtorEq, Nat.reduceAdd, Nat.reduceLeDiff, Nat.reduceMul, t0, t2, t3, t4]
  cases qq : decide ((i : Int) < 3) <;> simp only [go_sem, ↓reduceIte, Nat.reduceEqDiff, reduceCtorEq, Nat.reduceAdd, Nat.reduceLeDiff, Nat.reduceMul, t0, t2, t3, t4, Rz]
  ·have := Au qq
   exact ⟨⟨_, rfl⟩, tc, g, κ, cf, u, s, l, p, rfl, ck, nu, by omega, nl, np⟩
  have qq := As qq
  have wi := Ab ((i : Int) + 1) (by omega) (by omega)
  refine Af ?_
  simp only [go_sem, ↓reduceIte, Nat.reduceEqDiff, reduceCtorEq, Nat.reduceAdd, Nat.reduceLeDiff, Nat.reduceMul, t0, t2, t3, t4]
  refine Ap rfl (fun m' h hz _ => Cs (CX.refl tc.1) (hz id tc.1.arg hw)) rfl (hwx tc) fun r H2 ⟨y, e, _, _, c2⟩ => ?_
  subst e
  have ck2 := ck.cx hid tc.2.2 c2
  have c2 := tc.trans c2
  obtain ⟨u', H3, κ', a1, ck3, ke⟩ := ck2.addS (m := m) y c2.2.2 hw0 (by omega)
  have V1 := ck2.s.1.vc
  have V2 := ck3.s.1.vc
  simp only [go_sem, ↓reduceIte, Nat.reduceEqDiff, reduceCtorEq, Nat.reduceAdd, Nat.reduceLeDiff, Nat.reduceMul, t0, t2, t3, t4, V1]
  rw [a1]
  rotate_left
  ·rfl
  ·rfl
  ·rfl
  simp only [go_sem, ↓reduceIte, Nat.reduceEqDiff, reduceCtorEq, Nat.reduceAdd, Nat.reduceLeDiff, Nat.reduceMul, t0, t2, t3, t4, V1, V2]
  refine ⟨by rfl, ?_⟩
  simp only [go_sem, ↓reduceIte, Nat.reduceEqDiff, reduceCtorEq, Nat.reduceAdd, Nat.reduceLeDiff, Nat.reduceMul, t0, t2, t3, t4, wi]
  exact ⟨by omega, by simp, ⟨_, rfl⟩, ke.cxo c2 hid ck2.z (by decide), _, κ', { cf with sr := cf.sr ++ [y] }, u, u', l, p, rfl, ck3, nu, by simp [ns], nl, np⟩
 clear t0 t2 t3 tc ck nu ns nl np
 rintro t ⟨t0, ⟨g2, t2⟩, tc, g, κ, cf, u, s, l, p, t3, ck, nu, ns, nl, np⟩
 simp only [go_sem, ↓reduceIte, Nat.reduceEqDiff, reduceCtorEq, Nat.reduceAdd, Nat.reduceLeDiff, Nat.reduceMul, t0, t2, t3]
 refine Ak 3 (fun i t => t.ρ 6 = .val (.int .i64 i) ∧ Rz H c id 3 3 (3 * i) 0 t) (fun t => Rz H c id 3 3 (9) 0 t) ?_ ?_ ?_
 ·exact ⟨by simp [Ah], by simp [Ah, t0], ⟨g2, by simp [Ah, t2]⟩, tc, g, κ, cf, u, s, l, p, by simp [Ah, t3], ck, nu, ns, nl, np⟩
 ·clear t0 t2 t3 tc ck nu ns nl np
  rintro i t hi ⟨t6, t0, ⟨g2, t2⟩, tc, g, κ, cf, u, s, l, p, t3, ck, nu, ns, nl, np⟩
  simp only [go_sem, ↓reduceIte, Nat.reduceEqDiff, reduceCtorEq, Nat.reduceAdd, Nat.reduceLeDiff, Nat.reduceMul, t0, t2, t3, t6]
  cases qq : decide ((i : Int) < 3) <;> simp only [go_sem, ↓reduceIte, Nat.reduceEqDiff, reduceCtorEq, Nat.reduceAdd, Nat.reduceLeDiff, Nat.reduceMul, t0, t2, t3, t6, Rz]
  ·exact ⟨⟨_, rfl⟩, tc, g, κ, cf, u, s, l, p, rfl, ck, nu, ns, by omega, np⟩
  have qq := As qq
  have wi := Ab ((i : Int) + 1) (by omega) (by omega)
  refine Ak 3 (fun j t => t.ρ 6 = .val (.int .i64 i) ∧ t.ρ 7 = .val (.int .i64 j) ∧ Rz H c id 3 3 (3 * i + j) 0 t) (fun t => t.ρ 6 = .val (.int .i64 i) ∧ Rz H c id 3 3 (3 * (i + 1)) 0 t) ?_ ?_ ?_
  ·exact ⟨by simp [Ah, t6], by simp [Ah], by simp [Ah, t0], ⟨g2, by simp [Ah, t2]⟩, tc, g, κ, cf, u, s, l, p, by simp [Ah, t3], ck, nu, ns, by omega, np⟩
  ·clear t0 t2 t3 t6 tc ck nu ns nl np
   rintro j t hj ⟨t6, t7, t0, ⟨g2, t2⟩, tc, g, κ, cf, u, s, l, p, t3, ck, nu, ns, nl, np⟩
   simp only [go_sem, ↓reduceIte, Nat.reduceEqDiff, reduceCtorEq, Nat.reduceAdd, Nat.reduceLeDiff, Nat.reduceMul, t0, t2, t3, t6, t7]
   cases qj : decide ((j : Int) < 3) <;> simp only [go_sem, ↓reduceIte, Nat.reduceEqDiff, reduceCtorEq, Nat.reduceAdd, Nat.reduceLeDiff, Nat.reduceMul, t0, t2, t3, t6, t7, Rz]
   ·exact ⟨⟨_, rfl⟩, tc, g, κ, cf, u, s, l, p, rfl, ck, nu, ns, by omega, np⟩
   have qj := As qj
   have wj := Ab ((j : Int) + 1) (by omega) (by omega)
   cases q1 : decide ((i : Int) = (j : Int)) <;> simp only [go_sem, ↓reduceIte, Nat.reduceEqDiff, reduceCtorEq, Nat.reduceAdd, Nat.reduceLeDiff, Nat.reduceMul, t0, t2, t3, t6, t7, wj]
   rotate_left
   ·exact ⟨by omega, by simp, ⟨_, rfl⟩, tc, g, κ, cf, u, s, l, p, rfl, ck, nu, ns, by omega, np⟩
   refine Aq (Hd (CX.refl tc.1) hw) rfl fun r H2 ⟨b2, e, c2⟩ => ?_
   subst e
   have ck2 := ck.cx hid tc.2.2 c2
   have c2 := tc.trans c2
   cases b2 <;> simp only [go_sem, ↓reduceIte, Nat.reduceEqDiff, reduceCtorEq, Nat.reduceAdd, Nat.reduceLeDiff, Nat.reduceMul, t0, t2, t3, t6, t7, wj]
   rotate_left
   ·exact ⟨by omega, by simp, ⟨_, rfl⟩, c2, g, _, cf, u, s, l, p, rfl, ck2, nu, ns, by omega, np⟩
   obtain ⟨u', H3, κ', a1, ck3, ke⟩ := ck2.addL (m := m) i j c2.2.2 hw0 (by omega)
   have V1 := ck2.l.1.vc
   have V2 := ck3.l.1.vc
   rw [a1]
   rotate_left
   ·rfl
   ·rfl
   ·rfl
   simp only [go_sem, ↓reduceIte, Nat.reduceEqDiff, reduceCtorEq, Nat.reduceAdd, Nat.reduceLeDiff, Nat.reduceMul, t0, t2, t3, t6, t7, V1, V2, wj]
   exact ⟨by omega, by simp, ⟨_, rfl⟩, ke.cxo c2 hid ck2.z (by decide), _, κ', { cf with lk := cf.lk ++ [((i : Int), (j : Int))] }, u, s, u', p, rfl, ck3, nu, ns, by simp; omega, np⟩
  ·clear t0 t2 t3 t6 tc ck nu ns nl np
   rintro t ⟨t6, t0, ⟨g2, t2⟩, tc, g, κ, cf, u, s, l, p, t3, ck, nu, ns, nl, np⟩
   simp only [go_sem, ↓reduceIte, Nat.reduceEqDiff, reduceCtorEq, Nat.reduceAdd, Nat.reduceLeDiff, Nat.reduceMul, t0, t2, t3, t6, wi]
   exact ⟨by omega, by simp, ⟨_, rfl⟩, tc, g, κ, cf, u, s, l, p, rfl, ck, nu, ns, by omega, np⟩
 clear t0 t2 t3 tc ck nu ns nl np
 rintro t ⟨t0, ⟨g2, t2⟩, tc, g, κ, cf, u, s, l, p, t3, ck, nu, ns, nl, np⟩
 simp only [go_sem, ↓reduceIte, Nat.reduceEqDiff, reduceCtorEq, Nat.reduceAdd, Nat.reduceLeDiff, Nat.reduceMul, t0, t2, t3]
 refine Ak 3 (fun i t => t.ρ 8 = .val (.int .i64 i) ∧ Rz H c id 3 3 9 (3 * i) t) (fun t => Rz H c id 3 3 9 (9) t) ?_ ?_ ?_
 ·exact ⟨by simp [Ah], by simp [Ah, t0], ⟨g2, by simp [Ah, t2]⟩, tc, g, κ, cf, u, s, l, p, by simp [Ah, t3], ck, nu, ns, nl, np⟩
 ·clear t0 t2 t3 tc ck nu ns nl np
  rintro i t hi ⟨t6, t0, ⟨g2, t2⟩, tc, g, κ, cf, u, s, l, p, t3, ck, nu, ns, nl, np⟩
  simp only [go_sem, ↓reduceIte, Nat.reduceEqDiff, reduceCtorEq, Nat.reduceAdd, Nat.reduceLeDiff, Nat.reduceMul, t0, t2, t3, t6]
  cases qq : decide ((i : Int) < 3) <;> simp only [go_sem, ↓reduceIte, Nat.reduceEqDiff, reduceCtorEq, Nat.reduceAdd, Nat.reduceLeDiff, Nat.reduceMul, t0, t2, t3, t6, Rz]
  ·exact ⟨⟨_, rfl⟩, tc, g, κ, cf, u, s, l, p, rfl, ck, nu, ns, nl, by omega⟩
  have qq := As qq
  have wi := Ab ((i : Int) + 1) (by omega) (by omega)
  refine Ak 3 (fun j t => t.ρ 8 = .val (.int .i64 i) ∧ t.ρ 9 = .val (.int .i64 j) ∧ Rz H c id 3 3 9 (3 * i + j) t) (fun t => t.ρ 8 = .val (.int .i64 i) ∧ Rz H c id 3 3 9 (3 * (i + 1)) t) ?_ ?_ ?_
  ·exact ⟨by simp [Ah, t6], by simp [Ah], by simp [Ah, t0], ⟨g2, by simp [Ah, t2]⟩, tc, g, κ, cf, u, s, l, p, by simp [Ah, t3], ck, nu, ns, nl, by omega⟩
  ·clear t0 t2 t3 t6 tc ck nu ns nl np
   rintro j t hj ⟨t6, t7, t0, ⟨g2, t2⟩, tc, g, κ, cf, u, s, l, p, t3, ck, nu, ns, nl, np⟩
   simp only [go_sem, ↓reduceIte, Nat.reduceEqDiff, reduceCtorEq, Nat.reduceAdd, Nat.reduceLeDiff, Nat.reduceMul, t0, t2, t3, t6, t7]
   cases qj : decide ((j : Int) < 3) <;> simp only [go_sem, ↓reduceIte, Nat.reduceEqDiff, reduceCtorEq, Nat.reduceAdd, Nat.reduceLeDiff, Nat.reduceMul, t0, t2, t3, t6, t7, Rz]
   ·exact ⟨⟨_, rfl⟩, tc, g, κ, cf, u, s, l, p, rfl, ck, nu, ns, nl, by omega⟩
   have qj := As qj
   have wj := Ab ((j : Int) + 1) (by omega) (by omega)
   cases q1 : decide ((i : Int) = (j : Int)) <;> simp only [go_sem, ↓reduceIte, Nat.reduceEqDiff, reduceCtorEq, Nat.reduceAdd, Nat.reduceLeDiff, Nat.reduceMul, t0, t2, t3, t6, t7, wj]
   rotate_left
   ·exact ⟨by omega, by simp, ⟨_, rfl⟩, tc, g, κ, cf, u, s, l, p, rfl, ck, nu, ns, nl, by omega⟩
   refine Aq (Hd (CX.refl tc.1) hw) rfl fun r H2 ⟨b2, e, c2⟩ => ?_
   subst e
   have ck2 := ck.cx hid tc.2.2 c2
   have c2 := tc.trans c2
   cases b2 <;> simp only [go_sem, ↓reduceIte, Nat.reduceEqDiff, reduceCtorEq, Nat.reduceAdd, Nat.reduceLeDiff, Nat.reduceMul, t0, t2, t3, t6, t7, wj]
   rotate_left
   ·exact ⟨by omega, by simp, ⟨_, rfl⟩, c2, g, _, cf, u, s, l, p, rfl, ck2, nu, ns, nl, by omega⟩
   obtain ⟨u', H3, κ', a1, ck3, ke⟩ := ck2.addP (m := m) i j c2.2.2 hw0 (by omega)
   have V1 := ck2.p.1.vc
   have V2 := ck3.p.1.vc
   rw [a1]
   rotate_left
   ·rfl
   ·rfl
   ·rfl
   simp only [go_sem, ↓reduceIte, Nat.reduceEqDiff, reduceCtorEq, Nat.reduceAdd, Nat.reduceLeDiff, Nat.reduceMul, t0, t2, t3, t6, t7, V1, V2, wj]
   exact ⟨by omega, by simp, ⟨_, rfl⟩, ke.cxo c2 hid ck2.z (by decide), _, κ', { cf with px := cf.px ++ [((i : Int), (j : Int))] }, u, s, l, u', rfl, ck3, nu, ns, nl, by simp; omega⟩
  ·clear t0 t2 t3 t6 tc ck nu ns nl np
   rintro t ⟨t6, t0, ⟨g2, t2⟩, tc, g, κ, cf, u, s, l, p, t3, ck, nu, ns, nl, np⟩
   simp only [go_sem, ↓reduceIte, Nat.reduceEqDiff, reduceCtorEq, Nat.reduceAdd, Nat.reduceLeDiff, Nat.reduceMul, t0, t2, t3, t6, wi]
   exact ⟨by omega, by simp, ⟨_, rfl⟩, tc, g, κ, cf, u, s, l, p, rfl, ck, nu, ns, nl, by omega⟩
 clear t0 t2 t3 tc ck nu ns nl np
 rintro t ⟨t0, ⟨g2, t2⟩, tc, g, κ, cf, u, s, l, p, t3, ck, nu, ns, nl, np⟩
 simp only [go_sem, ↓reduceIte, Nat.reduceEqDiff, reduceCtorEq, Nat.reduceAdd, Nat.reduceLeDiff, Nat.reduceMul, t0, t2, t3]
 refine Aq (Hd (CX.refl tc.1) hw) rfl fun r H2 ⟨b2, e, c2⟩ => ?_
 subst e
 have ck2 := ck.cx hid tc.2.2 c2
 have c2 := tc.trans c2
 have V1 := ck2.u.1.vc
 have V2 := ck2.s.1.vc
 have V3 := ck2.l.1.vc
 have V4 := ck2.p.1.vc
 have o1 := ck2.u.own ck2.z (by decide)
 have o2 := ck2.s.own ck2.z (by decide)
 have o3 := ck2.l.own ck2.z (by decide)
 have o4 := ck2.p.own ck2.z (by decide)
 cases b2 <;> simp only [go_sem, ↓reduceIte, Nat.reduceEqDiff, reduceCtorEq, Nat.reduceAdd, Nat.reduceLeDiff, Nat.reduceMul, t0, t2, t3, V1, V2, V3, V4]
 ·exact ⟨cf, u, s, l, p, rfl, ck2.base, by omega, by omega, by omega, by omega, by simp [o1, o2, o3, o4], c2⟩
 obtain ⟨x1, i1, p1, o5, ho1, hr1, ha1⟩ := ck2.u.1.int0 (k := 0) (n := 0) rfl (by omega)
 obtain ⟨x2, i2, p2, o6, ho2, hr2, ha2⟩ := ck2.s.1.int0 (k := 2) (n := 2) rfl (by omega)
 refine Af ?_
 simp only [go_sem, ↓reduceIte, Nat.reduceEqDiff, reduceCtorEq, Nat.reduceAdd, Nat.reduceLeDiff, Nat.reduceMul, t0, t2, t3, V1, V2, V3, V4, ha1, ho1, hr1, ha2, ho2, hr2]
 refine ⟨by rfl, ?_⟩
 have p9 : H2 <+: H2 ++ [[.int .i64 x1, .int .i64 x1, .int .i64 x2]] := Eg
 have s9 : Bu (H2 ++ [[.int .i64 x1, .int .i64 x1, .int .i64 x2]]) (.slice (some ⟨H2.length, 0, some 1⟩) 3 3) [x1, x1, x2] := I5 rfl rfl (by simp)
 have b9 := ck2.base.pre p9
 exact ⟨{ cf with sr := [x1, x1, x2] }, u, _, l, p, rfl, ⟨b9.ur, s9, b9.lk, b9.px⟩, by show cf.ur.length ≤ 1000; omega, by simp, by show cf.lk.length ≤ 1000; omega, by show cf.px.length ≤ 1000; omega, by simp [o1, o3, o4]; exact .inr ⟨_, _, _, _, rfl, c2.2.2⟩, c2.trans (CX.ofPre c2.1 p9)⟩
def fP (n : Nat) (X : Hp → Prop) : Prop := ∀ H H', X H → n ≤ H.length → (∀ j, j < n → H'[j]? = H[j]?) → H.length ≤ H'.length → X H'
theorem Uj {H0 : Hp} {c : Value} {id : Nat} (hid : id < H0.length) : fP H0.length fun H => CX H0 H c id := fun _ _ h _ k l => h.own hid k l
theorem Ww {H0 : Hp} : fP H0.length fun H => H0 <+: H := fun H H' h _ k l => by
 refine List.prefix_iff_getElem?.2 fun j hj => ?_
 rw [k j hj, Ed h hj, B7 hj]
structure WA {α : Type} (X : Hp → Prop) (n0 : Nat) (R : α → List Value → Prop) (esz : Nat) (κ : Nat → Nat) (H : Hp) (w : Wd) (f : Rf) (rv : Value) (L : List α) : Prop where
 x : X H
 n : n0 ≤ H.length
 q : He κ H w f
 i : Pe w
 z : ∀ j, j < n0 → κ j = 99
 o : ∀ v ∈ Be f, Ao n0 v
 r : C9 κ 99 R esz H rv L
 ro : Ao n0 rv
section
variable {α : Type} {X : Hp → Prop} {n0 : Nat} {R : α → List Value → Prop} {esz : Nat} {κ : Nat → Nat} {H H' : Hp} {w : Wd} {f : Rf} {rv : Value} {L : List α}
theorem WA.mw {m : Md} (h : WA X n0 R esz κ H w f rv L) (hw : ∀ j, n0 ≤ j → m.wr j = true) : MW m f := fun v hv id hid => hw id (Bc (h.o v hv) id hid)
theorem WA.wr {m : Md} (h : WA X n0 R esz κ H w f rv L) (hw : ∀ j, n0 ≤ j → m.wr j = true) : Wr m H := fun j hj => hw j (C8 h.n hj)
theorem WA.go {c : Value} {id : Nat} (h : WA X n0 R esz κ H w f rv L) (hid : id < n0) (k : CX H H' c id) (x : X H') : WA X n0 R esz (Cm κ H.length 99) H' w f rv L := by
 have hk := h.z id hid
 refine ⟨x, C8 h.n k.2.2, h.q.cx k hk, h.i, fun j hj => (A2 (J3 hj h.n)).trans (h.z j hj), h.o, ⟨h.r.1.cx k fun hm => by have := Bc h.ro id hm; omega, fun j hj => ?_, h.r.2.2⟩, h.ro⟩
 rw [A2 (h.r.1.ids j hj)]
 exact h.r.2.1 j hj
theorem aH {κ : Nat → Nat} {H : Hp} {w : Wd} {f : Rf} (q : He κ H w f) : ∀ v ∈ Be f, Ao 0 v := fun v hv => by
 simp only [Be, List.mem_cons, List.not_mem_nil, or_false] at hv
 rcases hv with rfl | rfl | rfl | rfl | rfl | rfl | rfl | rfl
 ·exact (q.n (by decide)).2.2
 ·exact (q.t (by decide)).2.2
 ·exact (q.a (by decide)).2.2
 ·exact (q.c (by decide)).2.2
 ·exact (q.h (by decide)).2.2
 ·exact (q.e (by decide)).2.2
 ·exact (q.x (by decide)).2.2
 ·exact (q.d (by decide)).2.2
theorem WA.stf {r : Value} (h : WA X n0 R esz κ H w f rv L) (hX : fP n0 X) (s : qV κ H f r H') : ∃ κ' w' f' k, r = .tuple #[Mv w' f', .int .i64 k] ∧ WA X n0 R esz κ' H' w' f' rv L ∧ Fr κ κ' H H' := by
 obtain ⟨κ', w', f', k, e, q', i', fr, sb⟩ := s
 refine ⟨κ', w', f', k, e, ⟨hX H H' h.x h.n (fun j hj => fr.row j (J3 hj h.n) (.inr (by rw [h.z j hj]; decide))) fr.len, C8 h.n fr.len, q', i', fun j hj => (fr.col j (J3 hj h.n)).trans (h.z j hj), fun v hv => Ur (aH q' v hv) fun j hj => ?_, h.r.fr fr (.inr (by decide)), h.ro⟩, fr⟩
 rcases sb v hv j hj with h1 | ⟨u, hu, h1⟩
 ·exact C8 h.n h1
 ·exact Bc (h.o u hu) j h1
theorem WA.st {r : Value} (h : WA X n0 R esz κ H w f rv L) (hX : fP n0 X) (s : qV κ H f r H') : ∃ κ' w' f' k, r = .tuple #[Mv w' f', .int .i64 k] ∧ WA X n0 R esz κ' H' w' f' rv L :=
 let ⟨a, b, c, d, e, g, _⟩ := h.stf hX s
 ⟨a, b, c, d, e, g⟩
theorem WA.pre (h : WA X n0 R esz κ H w f rv L) (hX : fP n0 X) (p : H <+: H') : WA X n0 R esz (Cm κ H.length 99) H' w f rv L :=
 ⟨hX H H' h.x h.n (fun j hj => Ed p (J3 hj h.n)) p.length_le, C8 h.n p.length_le, Eo.keep h.q (Kh.pre p 99) (by decide), h.i, fun j hj => (A2 (J3 hj h.n)).trans (h.z j hj), h.o, ⟨h.r.1.pre p, fun id hid => (A2 (h.r.1.ids id hid)).trans (h.r.2.1 id hid), h.r.2.2⟩, h.ro⟩
theorem C9.side {β : Type} {R : β → List Value → Prop} {v : Value} {l : List β} (h : C9 κ 99 R esz H v l) (a4 : ∀ j, j < H.length → j ∉ Ae rv → H'[j]? = H[j]?) (hd : ∀ j ∈ Ae v, j ∉ Ae rv) : C9 (Cm κ H.length 99) 99 R esz H' v l :=
 ⟨h.1.frame (fun _ _ _ h => h) fun i off e ln cap hv => have hm : i ∈ Ae v := by subst hv; simp [Ae]
  a4 i (h.1.ids i hm) (hd i hm), fun id hid => (A2 (h.1.ids id hid)).trans (h.2.1 id hid), h.2.2⟩
end
theorem WA.app {m : Md} {X : Hp → Prop} {n0 : Nat} {κ : Nat → Nat} {H : Hp} {w : Wd} {f : Rf} {rv : Value} {L : List Ac} (a : Ac) (h : WA X n0 (En Pc) 9 κ H w f rv L) (hX : fP n0 X) (hw : ∀ j, n0 ≤ j → m.wr j = true) (hb : L.length ≤ 900) :
  ∃ rv' H', (∀ (s : St) (x y : Ev.X), s.H = H → Av s.ρ x = some rv → ex s.ρ y = .vs 1 (Pc a) → Ce m s 9 80 x y = some (.val rv', { s with H := H' })) ∧ WA X n0 (En Pc) 9 (Cm κ H.length 99) H' w f rv' (L ++ [a]) ∧ (∀ j, j < H.length → j ∉ Ae rv → H'[j]? = H[j]?) ∧ (∀ j ∈ Ae rv', j ∈ Ae rv ∨ H.length ≤ j) := by
 obtain ⟨v', H', a1, a2, a3, a4, a5, a6, _⟩ := T8.app (m := m) [a] h.r.1 h.ro h.n hw (by simp) (by simp; omega)
 have ke := Kh.app h.r.2.1 a4 a5
 exact ⟨v', H', a1, ⟨hX H H' h.x h.n (fun j hj => a4 j (J3 hj h.n) fun hm => by have := Bc h.ro j hm; omega) a5, C8 h.n a5, Eo.keep h.q ke (by decide), h.i, fun j hj => (A2 (J3 hj h.n)).trans (h.z j hj), h.o, ⟨a2, KC.app h.r.2.1 h.r.1.ids a6, a3.mono (Nat.zero_le _)⟩, a3⟩, a4, a6⟩
theorem WA.new {α : Type} {X : Hp → Prop} {n0 : Nat} {R R' : α → List Value → Prop} {esz esz' : Nat} {κ : Nat → Nat} {H H' : Hp} {w : Wd} {f : Rf} {rv rv' : Value} {L L' : List α} (h : WA X n0 R esz κ H w f rv L) (hX : fP n0 X) (p : H <+: H') (hr : Sl R' esz' H' rv' L') (ho : Ao H.length rv') : WA X n0 R' esz' (Cm κ H.length 99) H' w f rv' L' :=
 ⟨hX H H' h.x h.n (fun j hj => Ed p (J3 hj h.n)) p.length_le, C8 h.n p.length_le, Eo.keep h.q (Kh.pre p 99) (by decide), h.i, fun j hj => (A2 (J3 hj h.n)).trans (h.z j hj), h.o, ⟨hr, fun id hid => Gp (Bc ho id hid), ho.mono (Nat.zero_le _)⟩, ho.mono h.n⟩
theorem WA.num {m : Md} {X : Hp → Prop} {n0 : Nat} {κ : Nat → Nat} {H : Hp} {w : Wd} {f : Rf} {rv : Value} {L : List Int} (a : Int) (h : WA X n0 (En eI) 1 κ H w f rv L) (hX : fP n0 X) (hw : ∀ j, n0 ≤ j → m.wr j = true) (hb : L.length ≤ 900) :
  ∃ rv' H', (∀ (s : St) (x y : Ev.X), s.H = H → Av s.ρ x = some rv → ex s.ρ y = .vs 1 [.int .i64 a] → Ce m s 1 8 x y = some (.val rv', { s with H := H' })) ∧ WA X n0 (En eI) 1 (Cm κ H.length 99) H' w f rv' (L ++ [a]) := by
 obtain ⟨v', H', a1, a2, a3, a4, a5, a6, _⟩ := Sl.oneI (m := m) (N := n0) a h.r.1 h.ro h.n hw (by omega)
 have ke := Kh.app h.r.2.1 a4 a5
 exact ⟨v', H', a1, hX H H' h.x h.n (fun j hj => a4 j (J3 hj h.n) fun hm => by have := Bc h.ro j hm; omega) a5, C8 h.n a5, Eo.keep h.q ke (by decide), h.i, fun j hj => (A2 (J3 hj h.n)).trans (h.z j hj), h.o, ⟨a2, KC.app h.r.2.1 h.r.1.ids a6, a3.mono (Nat.zero_le _)⟩, a3⟩
def fB (n : Nat) (H : Hp) (wv : Value) : Prop := wv = yF ∨ ∃ κ w f, wv = Mv w f ∧ He κ H w f ∧ Pe w ∧ (∀ j, j < n → κ j = 99) ∧ ∀ v ∈ Be f, Ao n v
def PyR (H : Hp) (r : Value) (H' : Hp) : Prop := ∃ wv ro, r = .tuple #[wv, ro] ∧ H <+: H' ∧ fB H.length H' wv
theorem Wc {H : Hp} {v : Value} {l : List Ac} (h : T8 H v l) {i : Nat} (hi : i < l.length) : ∃ (x : Ac) (id p : Nat) (o : List Value), x ∈ l ∧ H[id]? = some o ∧ (o.drop p).take 9 = Pc x ∧ p + 9 ≤ o.length ∧
  ∀ (s : St) (y z : X), Av s.ρ y = some v → Av s.ρ z = some (.int .i64 i) → B4 s 9 y z = some (.val (.pointer (some ⟨id, p, some o.length⟩)), s) := by
 obtain ⟨id, p, o, ho, hr, hp, hia⟩ := h.elem (i := i) (B7 hi)
 exact ⟨_, id, p, o, List.getElem_mem hi, ho, hr, hp, hia⟩
theorem xV {m : Md} {H : Hp} {c : Ic} {u s l p v : Value} {A : List Ac} (hc : K5 H c u s l p) (h1 : c.ur.length ≤ 1000) (h2 : c.sr.length ≤ 1000) (h3 : c.lk.length ≤ 1000) (h4 : c.px.length ≤ 1000) (hv : T8 H v A) (hx : ∀ a ∈ A, a.tx.size ≤ 1000) (hw : Wr m H) (hnr : m.nr = false) : Ci EE m 131 [T3 c u s l p, v] H fun r H' => PyR H r H' := by
 refine Bt rfl rfl yL (by simp [hS]) ?_
 obtain ⟨v1, v2, v3, v4⟩ := hc.vcs
 have p0 : H <+: H ++ [[]] := Eg
 have hc0 := hc.pre p0
 have hv0 := hv.pre p0
 simp only [go_sem, ↓reduceIte, Nat.reduceEqDiff, reduceCtorEq, Nat.reduceAdd, Nat.reduceLeDiff, Nat.reduceMul, hS, v1, v2, v3, v4]
 refine Ap rfl (fun m' h _ hn => pD hc0 h1 h2 h3 h4 h (hn.trans hnr)) rfl (hw.pre p0) fun r1 H1 ⟨p1, hr⟩ => ?_
 have p1 : H ++ [[]] <+: H1 := p1
 rcases hr with ⟨_, e⟩ | ⟨_, κ, w, f, e, q, i, hz, ho⟩ <;> subst e
 ·simp only [go_sem, ↓reduceIte, Nat.reduceEqDiff, reduceCtorEq, Nat.reduceAdd, Nat.reduceLeDiff, Nat.reduceMul, List.getElem?_toArray, Bd]
  exact ⟨_, _, rfl, p0.trans p1, .inl rfl⟩
 have V := q.vcs
 have hz : ∀ j, j < (H ++ [[]]).length → κ j = 99 := hz
 have ho : ∀ v ∈ Be f, Ao (H ++ [[]]).length v := ho
 have wa : WA (fun H' => H <+: H') H.length (En eI) 1 κ H1 w f (.slice (some ⟨H.length, 0, some 1⟩) 0 0) [] := ⟨p0.trans p1, (p0.trans p1).length_le, q, i, fun j hj => hz j (by simp; omega), fun v hv => (ho v hv).mono (by simp), ⟨(Eb (H := H)).pre p1, fun j hj => hz j (by simp [Ae] at hj; simp; omega), .inr ⟨_, _, _, _, rfl, Nat.zero_le _⟩⟩, .inr ⟨_, _, _, _, rfl, Nat.le_refl _⟩⟩
 simp only [go_sem, ↓reduceIte, Nat.reduceEqDiff, reduceCtorEq, Nat.reduceAdd, Nat.reduceLeDiff, Nat.reduceMul, List.getElem?_toArray, Bd, V, (hv0.pre p1).len]
 cases q1 : decide ((A.length : Int) > 120) <;> simp only [go_sem, ↓reduceIte, Nat.reduceEqDiff, reduceCtorEq, Nat.reduceAdd, Nat.reduceLeDiff, Nat.reduceMul, V]
 rotate_left
 ·exact ⟨_, _, rfl, p0.trans p1, .inl rfl⟩
 have q1 := Au q1
 refine Ak A.length (fun i t => t.ρ 1 = .val v ∧ (∃ g, t.ρ 4 = .bx g [.slice none 0 0, .slice none 0 0, .slice none 0 0, .slice none 0 0, .int .i64 0, .int .i64 0, .int .i64 0, .slice none 0 0, .slice none 0 0, .slice none 0 0, .slice none 0 0, .slice none 0 0, .slice none 0 0, .slice none 0 0, .slice none 0 0, .slice none 0 0]) ∧ t.ρ 9 = .val (.int .i64 i) ∧ ∃ g κ w f rv L, t.ρ 7 = .bx g (M4 w f) ∧ t.ρ 6 = .val rv ∧ WA (fun H' => H <+: H') H.length (En eI) 1 κ t.H w f rv L ∧ L.length = i)
  (fun t => (∃ g, t.ρ 4 = .bx g [.slice none 0 0, .slice none 0 0, .slice none 0 0, .slice none 0 0, .int .i64 0, .int .i64 0, .int .i64 0, .slice none 0 0, .slice none 0 0, .slice none 0 0, .slice none 0 0, .slice none 0 0, .slice none 0 0, .slice none 0 0, .slice none 0 0, .slice none 0 0]) ∧ ∃ g κ w f rv, ∃ L : List Int, t.ρ 7 = .bx g (M4 w f) ∧ t.ρ 6 = .val rv ∧ WA (fun H' => H <+: H') H.length (En eI) 1 κ t.H w f rv L) ?_ ?_ ?_
 ·exact ⟨by simp [Ah, Cb], ⟨2, by simp [Ah]⟩, by simp [Ah], 3, κ, w, f, _, [], by simp [Ah], by simp [Ah], wa, rfl⟩
 ·rintro i t hi ⟨t1, ⟨g4, t4⟩, t9, g, κ, w, f, rv, L, t7, t6, wa, hL⟩
  have V := wa.q.vcs
  have hvt := hv.pre wa.x
  simp only [go_sem, ↓reduceIte, Nat.reduceEqDiff, reduceCtorEq, Nat.reduceAdd, Nat.reduceLeDiff, Nat.reduceMul, t1, t4, t6, t7, t9, hvt.len]
  cases qq : decide ((i : Int) < A.length) <;> simp only [go_sem, ↓reduceIte, Nat.reduceEqDiff, reduceCtorEq, Nat.reduceAdd, Nat.reduceLeDiff, Nat.reduceMul, t1, t4, t6, t7, t9]
  ·exact ⟨⟨_, rfl⟩, _, κ, w, f, rv, L, rfl, rfl, wa⟩
  have qq := As qq
  have wi := Ab ((i : Int) + 1) (by omega) (by omega)
  obtain ⟨x, i2, p2, o2, hxm, ho2, hr2, hp2, hia2⟩ := Wc hvt (i := i) (by omega)
  have hr2 : (o2.drop p2).take 9 = [.int .i64 x.kd, .int .i64 x.a, .int .i64 x.b, .int .i64 x.c, .int .i64 x.d, .int .i64 x.rs.1, .int .i64 x.rs.2.1, .int .i64 x.rs.2.2, .string x.tx] := hr2
  refine Af ?_
  simp only [go_sem, ↓reduceIte, Nat.reduceEqDiff, reduceCtorEq, Nat.reduceAdd, Nat.reduceLeDiff, Nat.reduceMul, t1, t4, t6, t7, t9, V, hia2, ho2, hr2, hp2]
  refine Ap rfl (fun m' h hz hn => eK wa.q wa.i (hx x hxm) h (MW.arg wa.q (wa.mw hw) hz) (hn.trans hnr)) rfl (wa.wr hw) fun r1 H2 hs => ?_
  obtain ⟨κ', w', f', k, e, wa'⟩ := wa.st Ww hs
  subst e
  have U := wa'.q.vcs
  simp only [go_sem, ↓reduceIte, Nat.reduceEqDiff, reduceCtorEq, Nat.reduceAdd, Nat.reduceLeDiff, Nat.reduceMul, List.getElem?_toArray, Bd, t1, t4, t6, t7, t9, V, U]
  refine ⟨by rfl, ?_⟩
  obtain ⟨rv', H3, a1, wb⟩ := wa'.num (m := m) k Ww hw (by omega)
  rw [a1]
  rotate_left
  ·rfl
  ·rfl
  ·rfl
  simp only [go_sem, ↓reduceIte, Nat.reduceEqDiff, reduceCtorEq, Nat.reduceAdd, Nat.reduceLeDiff, Nat.reduceMul, t1, t4, t6, t7, t9, V, U, wi]
  exact ⟨by omega, ⟨_, rfl⟩, by simp, _, _, w', f', rv', _, rfl, rfl, wb, by simp [hL]⟩
 ·rintro t ⟨⟨g4, t4⟩, g, κ, w, f, rv, L, t7, t6, wa⟩
  have V := wa.q.vcs
  simp only [go_sem, ↓reduceIte, Nat.reduceEqDiff, reduceCtorEq, Nat.reduceAdd, Nat.reduceLeDiff, Nat.reduceMul, t4, t6, t7, V]
  exact ⟨_, rv, rfl, wa.x, .inr ⟨κ, w, f, rfl, wa.q, wa.i, wa.z, wa.o⟩⟩
def PaR (H : Hp) (c : Value) (id : Nat) (r : Value) (H' : Hp) : Prop := ∃ A : List Ac, T8 H' r A ∧ Ao H.length r ∧ (∀ a ∈ A, a.tx.size ≤ 1000) ∧ CX H H' c id
abbrev WP (H : Hp) (c : Value) (id : Nat) (κ : Nat → Nat) (H' : Hp) (w : Wd) (f : Rf) (rv : Value) (L : List Ac) : Prop := WA (fun H' => CX H H' c id) H.length (En Pc) 9 κ H' w f rv L
def nS (H : Hp) (c : Value) (id : Nat) (cf : Ic) (u s l p : Value) (n : Int) (N : Nat) (t : St) : Prop := t.ρ 0 = .val c ∧ t.ρ 2 = .val (.int .i64 n) ∧ (∃ g, t.ρ 4 = .bx g [u, s, l, p, .int .i64 cf.skew]) ∧ ∃ g κ w f rv L, t.ρ 7 = .bx g (M4 w f) ∧ t.ρ 9 = .val rv ∧ WP H c id κ t.H w f rv L ∧ L.length ≤ N ∧ ∀ a ∈ L, a.tx.size ≤ 1000
theorem Zq {H : Hp} (L : List Ac) (h : L.length ≤ 1000) : T8 (H ++ [L.flatMap Pc]) (.slice (some ⟨H.length, 0, some 9⟩) L.length (L.length * 9)) L :=
 .inr ⟨H.length, 0, L.length * 9, L.flatMap Pc, rfl, by simp, by rw [Hn Lc]; omega, Nat.le_refl _, by omega, fun i a hi => by rw [Nat.zero_add]; exact Nl Lc hi⟩
theorem Ab3 {m : Md} {H : Hp} {c : Value} {id : Nat} {cf : Ic} {u s l p : Value} {n : Int} (hc : K6 H c id) (hcf : K5 H cf u s l p) (h1 : cf.ur.length ≤ 1000) (h2 : cf.sr.length ≤ 1000) (h3 : cf.lk.length ≤ 1000) (h4 : cf.px.length ≤ 1000) (hci : ∀ v ∈ [u, s, l, p], id ∉ Ae v) (hn : n ≤ 90) (hw0 : Wr m H) (hw : m.wr id = true) (hnr : m.nr = false) : Ci EE m 132 [c, T3 cf u s l p, .int .i64 n] H fun r H' => PaR H c id r H' := by
 have hid := hc.lt
 have hX := Uj (c := c) hid
 refine Bt rfl rfl rY (by simp [lW]) ?_
 obtain ⟨v1, v2, v3, v4⟩ := hcf.vcs
 simp only [go_sem, ↓reduceIte, Nat.reduceEqDiff, reduceCtorEq, Nat.reduceAdd, Nat.reduceLeDiff, Nat.reduceMul, lW, v1, v2, v3, v4]
 refine Ap rfl (fun m' h _ hn => pD hcf h1 h2 h3 h4 h (hn.trans hnr)) rfl hw0 fun r1 H1 ⟨p1, hr⟩ => ?_
 have p1 : H <+: H1 := p1
 have p2 : H1 <+: H1 ++ [[]] := Eg
 have p3 : H <+: H1 ++ [[]] := p1.trans p2
 have nl := p1.length_le
 rcases hr with ⟨_, e⟩ | ⟨_, κ, w, f, e, q, i, hz, ho⟩ <;> subst e
 ·simp only [go_sem, ↓reduceIte, Nat.reduceEqDiff, reduceCtorEq, Nat.reduceAdd, Nat.reduceLeDiff, Nat.reduceMul, List.getElem?_toArray, Bd]
  exact ⟨[], Nw, .inr ⟨_, _, _, _, rfl, nl⟩, by simp, CX.ofPre hc p3⟩
 have V := q.vcs
 have hz : ∀ j, j < H.length → κ j = 99 := hz
 have ho : ∀ v ∈ Be f, Ao H.length v := ho
 have wa : WP H c id (Cm κ H1.length 99) (H1 ++ [[]]) w f (.slice (some ⟨H1.length, 0, some 9⟩) 0 0) [] := ⟨CX.ofPre hc p3, p3.length_le, Eo.keep q (Kh.pre p2 99) (by decide), i, fun j hj => (A2 (J3 hj nl)).trans (hz j hj), ho, ⟨Nw, fun j hj => Gp (by simp [Ae] at hj; omega), .inr ⟨_, _, _, _, rfl, Nat.zero_le _⟩⟩, .inr ⟨_, _, _, _, rfl, nl⟩⟩
 simp only [go_sem, ↓reduceIte, Nat.reduceEqDiff, reduceCtorEq, Nat.reduceAdd, Nat.reduceLeDiff, Nat.reduceMul, List.getElem?_toArray, Bd, V]
 refine Aq (Hd (CX.refl wa.x.1) hw) rfl fun r H2 ⟨b1, e, c2⟩ => ?_
 subst e
 have wa := wa.go hid c2 (wa.x.trans c2)
 generalize Cm (Cm κ H1.length 99) (H1 ++ [[]]).length 99 = κ2 at wa
 simp only [go_sem, ↓reduceIte, Nat.reduceEqDiff, reduceCtorEq, Nat.reduceAdd, Nat.reduceLeDiff, Nat.reduceMul, V]
 refine Bq (nS H c id cf u s l p n 40) (fun q1 => ?_) (fun q1 => ?_) ?_
 ·simp only [go_sem, ↓reduceIte, Nat.reduceEqDiff, reduceCtorEq, Nat.reduceAdd, Nat.reduceLeDiff, Nat.reduceMul]
  refine Af ?_
  simp only [go_sem, ↓reduceIte, Nat.reduceEqDiff, reduceCtorEq, Nat.reduceAdd, Nat.reduceLeDiff, Nat.reduceMul, v1, v2, v3, v4]
  have hww : ∀ {H' : Hp}, CX H H' c id → Wr m H' := fun h j hj => hw0 j (C8 h.2.2 hj)
  refine Ap rfl (fun m' h hz _ => Cs (CX.refl wa.x.1) (hz id wa.x.1.arg hw)) rfl (hww wa.x) fun r H3 ⟨x3, e, _, _, c3⟩ => ?_
  subst e
  have wa := wa.go hid c3 (wa.x.trans c3)
  simp only [go_sem, ↓reduceIte, Nat.reduceEqDiff, reduceCtorEq, Nat.reduceAdd, Nat.reduceLeDiff, Nat.reduceMul, v1, v2, v3, v4]
  refine Ap rfl (fun m' h hz _ => Cs (CX.refl wa.x.1) (hz id wa.x.1.arg hw)) rfl (hww wa.x) fun r H4 ⟨x4, e, _, _, c4⟩ => ?_
  subst e
  have wa := wa.go hid c4 (wa.x.trans c4)
  simp only [go_sem, ↓reduceIte, Nat.reduceEqDiff, reduceCtorEq, Nat.reduceAdd, Nat.reduceLeDiff, Nat.reduceMul, v1, v2, v3, v4]
  refine Ap rfl (fun m' h hz _ => Cs (CX.refl wa.x.1) (hz id wa.x.1.arg hw)) rfl (hww wa.x) fun r H5 ⟨x5, e, _, _, c5⟩ => ?_
  subst e
  have wa := wa.go hid c5 (wa.x.trans c5)
  simp only [go_sem, ↓reduceIte, Nat.reduceEqDiff, reduceCtorEq, Nat.reduceAdd, Nat.reduceLeDiff, Nat.reduceMul, v1, v2, v3, v4]
  have hcx : ∀ {H' : Hp}, CX H H' c id → K5 H' cf u s l p := fun h => ⟨hcf.ur.cx h (hci u (by simp)), hcf.sr.cx h (hci s (by simp)), hcf.lk.cx h (hci l (by simp)), hcf.px.cx h (hci p (by simp))⟩
  refine Aa (fun m' h => zR (x := (7, 255, 60)) (hcx wa.x) h) rfl (hww wa.x) fun r H6 ⟨L, p6, sl, ol, nL, hx⟩ => ?_
  have p6 : H5 <+: H6 := p6
  have wa := wa.new hX p6 sl ol
  simp only [go_sem, ↓reduceIte, Nat.reduceEqDiff, reduceCtorEq, Nat.reduceAdd, Nat.reduceLeDiff, Nat.reduceMul, v1, v2, v3, v4]
  refine ⟨by rfl, ?_⟩
  have hX := Uj (c := c) hid
  refine Ak L.length (fun i t => t.ρ 10 = .val (.int .i64 i) ∧ t.ρ 0 = .val c ∧ t.ρ 2 = .val (.int .i64 n) ∧ (∃ g, t.ρ 4 = .bx g [u, s, l, p, .int .i64 cf.skew]) ∧ ∃ g κ w f, t.ρ 7 = .bx g (M4 w f) ∧ t.ρ 9 = .val r ∧ WP H c id κ t.H w f r L) (nS H c id cf u s l p n 30) ?_ ?_ ?_
  ·exact ⟨by simp [Ah], by simp [Ah, Cb], by simp [Ah, Cb], ⟨1, by simp [Ah]⟩, 2, _, w, f, by simp [Ah], by simp [Ah], wa⟩
  ·rintro i t hi ⟨t10, t0, t2, ⟨g4, t4⟩, g, κ, w, f, t7, t9, wa⟩
   have V := wa.q.vcs
   have hr := wa.r.1
   simp only [go_sem, ↓reduceIte, Nat.reduceEqDiff, reduceCtorEq, Nat.reduceAdd, Nat.reduceLeDiff, Nat.reduceMul, t0, t2, t4, t7, t9, t10, hr.len]
   cases qq : decide ((i : Int) < L.length) <;> simp only [go_sem, ↓reduceIte, Nat.reduceEqDiff, reduceCtorEq, Nat.reduceAdd, Nat.reduceLeDiff, Nat.reduceMul, t0, t2, t4, t7, t9, t10]
   ·exact ⟨t0, t2, ⟨g4, by simp [Ah, t4]⟩, g, κ, w, f, r, L, by simp [Ah, t7], by simp [Ah, t9], wa, nL, hx⟩
   have qq := As qq
   have wi := Ab ((i : Int) + 1) (by omega) (by omega)
   obtain ⟨x, i2, p2, o2, hxm, ho2, hr2, hp2, hia2⟩ := Wc hr (i := i) (by omega)
   have hr2 : (o2.drop p2).take 9 = [.int .i64 x.kd, .int .i64 x.a, .int .i64 x.b, .int .i64 x.c, .int .i64 x.d, .int .i64 x.rs.1, .int .i64 x.rs.2.1, .int .i64 x.rs.2.2, .string x.tx] := hr2
   refine Af ?_
   simp only [go_sem, ↓reduceIte, Nat.reduceEqDiff, reduceCtorEq, Nat.reduceAdd, Nat.reduceLeDiff, Nat.reduceMul, t0, t2, t4, t7, t9, t10, V, hia2, ho2, hr2, hp2]
   refine Ap rfl (fun m' h hz hn => eK wa.q wa.i (hx x hxm) h (MW.arg wa.q (wa.mw hw0) hz) (hn.trans hnr)) rfl (wa.wr hw0) fun r1 H7 hs => ?_
   obtain ⟨κ', w', f', k, e, wa'⟩ := wa.st hX hs
   subst e
   have U := wa'.q.vcs
   simp only [go_sem, ↓reduceIte, Nat.reduceEqDiff, reduceCtorEq, Nat.reduceAdd, Nat.reduceLeDiff, Nat.reduceMul, List.getElem?_toArray, Bd, t0, t2, t4, t7, t9, t10, V, U, wi]
   refine ⟨by rfl, ?_⟩
   exact ⟨by omega, by simp, ⟨_, rfl⟩, _, κ', w', f', rfl, wa'⟩
  ·clear wa
   rintro t ⟨t0, t2, ⟨g4, t4⟩, g, κ, w, f, rv, L, t7, t9, wa, nL, hx⟩
   simp only [go_sem, ↓reduceIte, Nat.reduceEqDiff, reduceCtorEq, Nat.reduceAdd, Nat.reduceLeDiff, Nat.reduceMul, t0, t2, t4, t7, t9]
   refine Aq (Hd (CX.refl wa.x.1) hw) rfl fun r H2 ⟨b1, e, c2⟩ => ?_
   subst e
   have wa := wa.go hid c2 (wa.x.trans c2)
   simp only [go_sem, ↓reduceIte, Nat.reduceEqDiff, reduceCtorEq, Nat.reduceAdd, Nat.reduceLeDiff, Nat.reduceMul, t0, t2, t4, t7, t9, wa.r.1.len]
   have fin : L.length ≤ 40 := by omega
   cases b1 <;> simp only [go_sem, ↓reduceIte, Nat.reduceEqDiff, reduceCtorEq, Nat.reduceAdd, Nat.reduceLeDiff, Nat.reduceMul, t0, t2, t4, t7, t9, wa.r.1.len, nS]
   ·exact ⟨⟨_, rfl⟩, _, _, w, f, rv, L, rfl, rfl, wa, fin, hx⟩
   cases q3 : decide ((L.length : Int) > 3) <;> simp only [go_sem, ↓reduceIte, Nat.reduceEqDiff, reduceCtorEq, Nat.reduceAdd, Nat.reduceLeDiff, Nat.reduceMul, t0, t2, t4, t7, t9, nS]
   ·exact ⟨⟨_, rfl⟩, _, _, w, f, rv, L, rfl, rfl, wa, fin, hx⟩
   refine Aq (Cs (CX.refl wa.x.1) hw) rfl fun r H3 ⟨x, e, _, _, c3⟩ => ?_
   subst e
   have wa := wa.go hid c3 (wa.x.trans c3)
   simp only [go_sem, ↓reduceIte, Nat.reduceEqDiff, reduceCtorEq, Nat.reduceAdd, Nat.reduceLeDiff, Nat.reduceMul, t0, t2, t4, t7, t9]
   refine Af ?_
   simp only [go_sem, ↓reduceIte, Nat.reduceEqDiff, reduceCtorEq, Nat.reduceAdd, Nat.reduceLeDiff, Nat.reduceMul, t0, t2, t4, t7, t9, v1, v2, v3, v4]
   have hcx : ∀ {H' : Hp}, CX H H' c id → K5 H' cf u s l p := fun h => ⟨hcf.ur.cx h (hci u (by simp)), hcf.sr.cx h (hci s (by simp)), hcf.lk.cx h (hci l (by simp)), hcf.px.cx h (hci p (by simp))⟩
   refine Aa (fun m' h => cU (hcx wa.x) m' h) rfl (wa.wr hw0) fun r H4 ⟨⟨d, e1, _⟩, e2⟩ => ?_
   subst e1
   have e2 : H4 = H3 := e2
   subst e2
   have qn := wa.q.n (by decide)
   simp only [go_sem, ↓reduceIte, Nat.reduceEqDiff, reduceCtorEq, Nat.reduceAdd, Nat.reduceLeDiff, Nat.reduceMul, t0, t2, t4, t7, t9, qn.1.len]
   refine ⟨by rfl, ?_⟩
   have s3 := Zq (H := H4) [⟨2, IntKind.i64.wrap (3 + x), 0, 0, 0, (0, 0, 0), ⟨#[]⟩⟩, ⟨4, d, w.net.length, 0, 0, (0, 0, 0), ⟨#[]⟩⟩, ⟨5, IntKind.i64.wrap (3 + x), IntKind.i64.wrap (w.net.length + 1), 0, 0, (0, 0, 0), ⟨#[]⟩⟩] (by simp)
   have hx3 : ∀ a ∈ [(⟨2, IntKind.i64.wrap (3 + x), 0, 0, 0, (0, 0, 0), ⟨#[]⟩⟩ : Ac), ⟨4, d, w.net.length, 0, 0, (0, 0, 0), ⟨#[]⟩⟩, ⟨5, IntKind.i64.wrap (3 + x), IntKind.i64.wrap (w.net.length + 1), 0, 0, (0, 0, 0), ⟨#[]⟩⟩], a.tx.size ≤ 1000 := fun z hz => by
    simp only [List.mem_cons, List.not_mem_nil, or_false] at hz
    rcases hz with rfl | rfl | rfl <;> exact Nat.zero_le _
   have hl3 : [(⟨2, IntKind.i64.wrap (3 + x), 0, 0, 0, (0, 0, 0), ⟨#[]⟩⟩ : Ac), ⟨4, d, w.net.length, 0, 0, (0, 0, 0), ⟨#[]⟩⟩, ⟨5, IntKind.i64.wrap (3 + x), IntKind.i64.wrap (w.net.length + 1), 0, 0, (0, 0, 0), ⟨#[]⟩⟩].length = 3 := rfl
   have p5 : H4 <+: H4 ++ [([⟨2, IntKind.i64.wrap (3 + x), 0, 0, 0, (0, 0, 0), ⟨#[]⟩⟩, ⟨4, d, w.net.length, 0, 0, (0, 0, 0), ⟨#[]⟩⟩, ⟨5, IntKind.i64.wrap (3 + x), IntKind.i64.wrap (w.net.length + 1), 0, 0, (0, 0, 0), ⟨#[]⟩⟩] : List Ac).flatMap Pc] := Eg
   have wb := wa.pre hX p5
   have k3 : C9 (Cm (Cm (Cm κ t.H.length 99) H2.length 99) H4.length 99) 99 (En Pc) 9 _ (.slice (some ⟨H4.length, 0, some 9⟩) 3 27) _ := ⟨s3, fun j hj => Gp (by simp [Ae] at hj; omega), .inr ⟨_, _, _, _, rfl, Nat.zero_le _⟩⟩
   have d3 : ∀ j ∈ Ae (.slice (some ⟨H4.length, 0, some 9⟩) 3 27), j ∉ Ae rv := fun j hj hm => by
    have := wa.r.1.ids j hm
    simp [Ae] at hj
    omega
   generalize hL3 : [(⟨2, IntKind.i64.wrap (3 + x), 0, 0, 0, (0, 0, 0), ⟨#[]⟩⟩ : Ac), ⟨4, d, w.net.length, 0, 0, (0, 0, 0), ⟨#[]⟩⟩, ⟨5, IntKind.i64.wrap (3 + x), IntKind.i64.wrap (w.net.length + 1), 0, 0, (0, 0, 0), ⟨#[]⟩⟩] = L3 at *
   have hX := Uj (c := c) hid
   refine Ak 3 (fun i t => t.ρ 13 = .val (.int .i64 i) ∧ t.ρ 12 = .val (.slice (some ⟨H4.length, 0, some 9⟩) 3 27) ∧ t.ρ 0 = .val c ∧ t.ρ 2 = .val (.int .i64 n) ∧ (∃ g, t.ρ 4 = .bx g [u, s, l, p, .int .i64 cf.skew]) ∧ ∃ g κ w f rv L, t.ρ 7 = .bx g (M4 w f) ∧ t.ρ 9 = .val rv ∧ WP H c id κ t.H w f rv L ∧ L.length ≤ 30 + i ∧ (∀ a ∈ L, a.tx.size ≤ 1000) ∧ C9 κ 99 (En Pc) 9 t.H (.slice (some ⟨H4.length, 0, some 9⟩) 3 27) L3 ∧ ∀ j ∈ Ae (.slice (some ⟨H4.length, 0, some 9⟩) 3 27), j ∉ Ae rv) (nS H c id cf u s l p n 40) ?_ ?_ ?_
   ·refine ⟨by simp [Ah], by simp [Ah], by simp [Ah, t0], by simp [Ah, t2], ⟨g4, by simp [Ah, t4]⟩, g, Cm (Cm (Cm κ t.H.length 99) H2.length 99) H4.length 99, w, f, rv, L, by simp [Ah, t7], by simp [Ah, t9], ?_, by omega, hx, ?_, d3⟩
    ·subst hL3; exact wb
    ·subst hL3; exact k3
   ·clear t0 t2 t4 t7 t9 hx nL wa wb s3 k3 d3 p5 qn
    rintro i t hi ⟨t13, t12, t0, t2, ⟨g4, t4⟩, g, κ, w, f, rv, L, t7, t9, wa, nL, hx, k3, d3⟩
    have V := wa.q.vcs
    simp only [go_sem, ↓reduceIte, Nat.reduceEqDiff, reduceCtorEq, Nat.reduceAdd, Nat.reduceLeDiff, Nat.reduceMul, t0, t2, t4, t7, t9, t12, t13, k3.1.len]
    cases qq : decide ((i : Int) < L3.length) <;> simp only [go_sem, ↓reduceIte, Nat.reduceEqDiff, reduceCtorEq, Nat.reduceAdd, Nat.reduceLeDiff, Nat.reduceMul, t0, t2, t4, t7, t9, t12, t13, nS]
    ·exact ⟨⟨_, rfl⟩, g, κ, w, f, rv, L, rfl, rfl, wa, by omega, hx⟩
    have qq := As qq
    have qq : i < 3 := by omega
    have wi := Ab ((i : Int) + 1) (by omega) (by omega)
    obtain ⟨x, i2, p2, o2, hxm, ho2, hr2, hp2, hia2⟩ := Wc k3.1 (i := i) (by omega)
    have hr2 : (o2.drop p2).take 9 = [.int .i64 x.kd, .int .i64 x.a, .int .i64 x.b, .int .i64 x.c, .int .i64 x.d, .int .i64 x.rs.1, .int .i64 x.rs.2.1, .int .i64 x.rs.2.2, .string x.tx] := hr2
    simp only [go_sem, ↓reduceIte, Nat.reduceEqDiff, reduceCtorEq, Nat.reduceAdd, Nat.reduceLeDiff, Nat.reduceMul, t0, t2, t4, t7, t9, t12, t13, V, hia2, ho2, hr2, hp2]
    obtain ⟨rv', H5, a1, wb, a4, a6⟩ := wa.app (m := m) x hX hw0 (by omega)
    rw [a1]
    rotate_left
    ·rfl
    ·rfl
    ·rfl
    have hx' : ∀ a ∈ L ++ [x], a.tx.size ≤ 1000 := fun z hz => by
     rcases Lh hz with h | h
     ·exact hx z h
     ·rw [bJ h]; exact hx3 x hxm
    have k4 := k3.side a4 d3
    have d4 : ∀ j ∈ Ae (.slice (some ⟨H4.length, 0, some 9⟩) 3 27), j ∉ Ae rv' := fun j hj hm => by
     rcases a6 j hm with h | h
     ·exact d3 j hj h
     ·have := k3.1.ids j hj; omega
    obtain ⟨x, i2, p2, o2, hxm, ho2, hr2, hp2, hia2⟩ := Wc k4.1 (i := i) (by omega)
    have hr2 : (o2.drop p2).take 9 = [.int .i64 x.kd, .int .i64 x.a, .int .i64 x.b, .int .i64 x.c, .int .i64 x.d, .int .i64 x.rs.1, .int .i64 x.rs.2.1, .int .i64 x.rs.2.2, .string x.tx] := hr2
    simp only [go_sem, ↓reduceIte, Nat.reduceEqDiff, reduceCtorEq, Nat.reduceAdd, Nat.reduceLeDiff, Nat.reduceMul, t0, t2, t4, t7, t12, t13, V]
    refine Af ?_
    simp only [go_sem, ↓reduceIte, Nat.reduceEqDiff, reduceCtorEq, Nat.reduceAdd, Nat.reduceLeDiff, Nat.reduceMul, t0, t2, t4, t7, t12, t13, V, hia2, ho2, hr2, hp2]
    have hx3' : ∀ a ∈ L3, a.tx.size ≤ 1000 := hx3
    refine Ap rfl (fun m' h hz hn => eK wb.q wb.i (hx3' x hxm) h (MW.arg wb.q (wb.mw hw0) hz) (hn.trans hnr)) rfl (wb.wr hw0) fun r1 H7 hs => ?_
    obtain ⟨κ', w', f', k, e, wc, fr⟩ := wb.stf hX hs
    subst e
    have U := wc.q.vcs
    simp only [go_sem, ↓reduceIte, Nat.reduceEqDiff, reduceCtorEq, Nat.reduceAdd, Nat.reduceLeDiff, Nat.reduceMul, List.getElem?_toArray, Bd, t0, t2, t4, t7, t12, t13, V, U, wi]
    refine ⟨by rfl, ?_⟩
    exact ⟨by omega, by simp, ⟨_, rfl⟩, _, κ', w', f', rv', _, rfl, rfl, wc, by simp; omega, hx', k4.fr fr (.inr (by decide)), d4⟩
   ·clear t0 t2 t4 t7 t9 hx nL wa wb s3 k3 d3 p5 qn
    intro t ht
    simp only [go_sem, ↓reduceIte, Nat.reduceEqDiff, reduceCtorEq, Nat.reduceAdd, Nat.reduceLeDiff, Nat.reduceMul]
    exact ht
 ·simp only [go_sem, ↓reduceIte, Nat.reduceEqDiff, reduceCtorEq, Nat.reduceAdd, Nat.reduceLeDiff, Nat.reduceMul]
  exact ⟨by simp [Ah, Cb], by simp [Ah, Cb], ⟨1, by simp [Ah]⟩, 2, _, w, f, _, [], by simp [Ah], by simp [Ah], wa, by simp, by simp⟩
 clear wa
 rintro t ⟨t0, t2, ⟨g4, t4⟩, g, κ, w, f, rv, L, t7, t9, wa, nL, hx⟩
 simp only [go_sem, ↓reduceIte, Nat.reduceEqDiff, reduceCtorEq, Nat.reduceAdd, Nat.reduceLeDiff, Nat.reduceMul, t0, t2, t4, t7, t9]
 refine Fq (fun k t => t.ρ 0 = .val c ∧ t.ρ 2 = .val (.int .i64 n) ∧ ∃ g κ w f rv L, t.ρ 7 = .bx g (M4 w f) ∧ t.ρ 9 = .val rv ∧ WP H c id κ t.H w f rv L ∧ L.length ≤ 100 ∧ (∀ a ∈ L, a.tx.size ≤ 1000) ∧ 100 - L.length = k) (fun t => ∃ rv L, t.ρ 9 = .val rv ∧ T8 t.H rv L ∧ Ao H.length rv ∧ (∀ a ∈ L, a.tx.size ≤ 1000) ∧ CX H t.H c id) (100 - L.length) ?_ ?_ ?_
 ·exact ⟨t0, t2, g, κ, w, f, rv, L, t7, t9, wa, by omega, hx, rfl⟩
 ·clear t0 t2 t4 t7 t9 hx nL wa
  rintro k t ⟨t0, t2, g, κ, w, f, rv, L, t7, t9, wa, nL, hx, hk⟩
  have V := wa.q.vcs
  simp only [go_sem, ↓reduceIte, Nat.reduceEqDiff, reduceCtorEq, Nat.reduceAdd, Nat.reduceLeDiff, Nat.reduceMul, t0, t2, t7, t9, wa.r.1.len]
  cases qq : decide ((L.length : Int) < n) <;> simp only [go_sem, ↓reduceIte, Nat.reduceEqDiff, reduceCtorEq, Nat.reduceAdd, Nat.reduceLeDiff, Nat.reduceMul, t0, t2, t7, t9]
  ·exact ⟨rv, L, rfl, wa.r.1, wa.ro, hx, wa.x⟩
  have qq := As qq
  have hww : ∀ {H' : Hp}, CX H H' c id → Wr m H' := fun h j hj => hw0 j (C8 h.2.2 hj)
  refine Aq (pM wa.q wa.i (wa.z id hid) (CX.refl wa.x.1) (hww wa.x) hw) rfl fun r H2 ⟨x, e, hx1, c2⟩ => ?_
  subst e
  have wa := wa.go hid c2 (wa.x.trans c2)
  simp only [go_sem, ↓reduceIte, Nat.reduceEqDiff, reduceCtorEq, Nat.reduceAdd, Nat.reduceLeDiff, Nat.reduceMul, t0, t2, t7, t9, V]
  refine Aq (Hd (CX.refl wa.x.1) hw) rfl fun r H3 ⟨b1, e, c3⟩ => ?_
  subst e
  have wa := wa.go hid c3 (wa.x.trans c3)
  generalize Cm (Cm κ t.H.length 99) H2.length 99 = κ3 at wa
  simp only [go_sem, ↓reduceIte, Nat.reduceEqDiff, reduceCtorEq, Nat.reduceAdd, Nat.reduceLeDiff, Nat.reduceMul, t0, t2, t7, t9, V]
  refine Bq (fun t => t.ρ 0 = .val c ∧ t.ρ 2 = .val (.int .i64 n) ∧ (∃ g, t.ρ 7 = .bx g (M4 w f)) ∧ t.ρ 9 = .val rv ∧ ∃ κ, WP H c id κ t.H w f rv L ∧ ∃ g x, t.ρ 14 = .bx g (Pc x) ∧ x.tx.size ≤ 1000) (fun q1 => ?_) (fun q1 => ?_) ?_
  ·simp only [go_sem, ↓reduceIte, Nat.reduceEqDiff, reduceCtorEq, Nat.reduceAdd, Nat.reduceLeDiff, Nat.reduceMul, t0, t2, t7, t9, V]
   refine Aq (Ku [-1, 0, 11] (CX.refl wa.x.1) (J3 hid wa.n) hw (by decide) (by decide)) rfl fun r H4 ⟨y, _, e, c4⟩ => ?_
   subst e
   have wa := wa.go hid c4 (wa.x.trans c4)
   simp only [go_sem, ↓reduceIte, Nat.reduceEqDiff, reduceCtorEq, Nat.reduceAdd, Nat.reduceLeDiff, Nat.reduceMul, t0, t2, t7, t9, V]
   exact ⟨⟨_, rfl⟩, _, wa, _, ⟨y, x.a, x.b, x.c, x.d, x.rs, x.tx⟩, rfl, hx1⟩
  ·simp only [go_sem, ↓reduceIte, Nat.reduceEqDiff, reduceCtorEq, Nat.reduceAdd, Nat.reduceLeDiff, Nat.reduceMul, t0, t2, t7, t9, V]
   exact ⟨⟨_, rfl⟩, _, wa, _, x, rfl, hx1⟩
  clear t0 t2 t7 t9 wa c2 hx1
  rintro t ⟨t0, t2, ⟨g7, t7⟩, t9, κ, wa, g14, x, t14, hx1⟩
  simp only [go_sem, ↓reduceIte, Nat.reduceEqDiff, reduceCtorEq, Nat.reduceAdd, Nat.reduceLeDiff, Nat.reduceMul, t0, t2, t7, t9, t14]
  obtain ⟨rv', H5, a1, wb, a4, a6⟩ := wa.app (m := m) x hX hw0 (by omega)
  rw [a1]
  rotate_left
  ·rfl
  ·rfl
  ·rfl
  simp only [go_sem, ↓reduceIte, Nat.reduceEqDiff, reduceCtorEq, Nat.reduceAdd, Nat.reduceLeDiff, Nat.reduceMul, t0, t2, t7, t9, t14, V]
  refine Ap rfl (fun m' h hz hn => eK wb.q wb.i hx1 h (MW.arg wb.q (wb.mw hw0) hz) (hn.trans hnr)) rfl (wb.wr hw0) fun r1 H7 hs => ?_
  obtain ⟨κ', w', f', k', e, wc⟩ := wb.st hX hs
  subst e
  have U := wc.q.vcs
  simp only [go_sem, ↓reduceIte, Nat.reduceEqDiff, reduceCtorEq, Nat.reduceAdd, Nat.reduceLeDiff, Nat.reduceMul, List.getElem?_toArray, Bd, t0, t2, t7, t9, t14, V, U]
  exact ⟨100 - (L ++ [x]).length, by simp; omega, _, κ', w', f', rv', L ++ [x], rfl, rfl, wc, by simp; omega, fun z hz => by
   rcases Lh hz with h | h
   ·exact hx z h
   ·rw [bJ h]; exact hx1, rfl⟩
 ·rintro t ⟨rv, L, t9, sl, ol, hx, cx⟩
  simp only [go_sem, ↓reduceIte, Nat.reduceEqDiff, reduceCtorEq, Nat.reduceAdd, Nat.reduceLeDiff, Nat.reduceMul, t9]
  exact ⟨L, sl, ol, hx, cx⟩
def WvX (H : Hp) (c : Value) (id : Nat) (r : Value) (H' : Hp) : Prop := CX H H' c id ∧ fB H.length H' r
theorem fB.mono {n n' : Nat} {H : Hp} {v : Value} (h : fB n H v) (hn : n' ≤ n) : fB n' H v := by
 rcases h with h | ⟨κ, w, f, e, q, i, z, o⟩
 ·exact .inl h
 ·exact .inr ⟨κ, w, f, e, q, i, fun j hj => z j (by omega), fun v hv => (o v hv).mono hn⟩
theorem fB.vcs {n : Nat} {H : Hp} {v : Value} (h : fB n H v) : ∃ cs : List Value, v = .agg cs.toArray ∧ cs.length = 16 := by
 rcases h with h | ⟨κ, w, f, e, q, i, z, o⟩
 ·exact ⟨_, h, rfl⟩
 ·exact ⟨_, e, rfl⟩
theorem f91 {m : Md} {H : Hp} {c : Value} {id : Nat} {n : Int} (hc : K6 H c id) (hn : n ≤ 90) (hw0 : Wr m H) (hw : m.wr id = true) (hnr : m.nr = false) : Ci EE m 91 [c, .int .i64 n] H fun r H' => WvX H c id r H' := by
 have hid := hc.lt
 refine Bt rfl rfl k91 (by simp [c91]) ?_
 simp only [go_sem, ↓reduceIte, Nat.reduceEqDiff, reduceCtorEq, Nat.reduceAdd, Nat.reduceLeDiff, Nat.reduceMul, c91]
 refine Aq (xB hc hw0 hw) rfl fun r H1 ⟨cf, u, s, l, p, e, hcf, h1, h2, h3, h4, ho, c1⟩ => ?_
 subst e
 have hw1 : Wr m H1 := fun j hj => hw0 j (C8 c1.2.2 hj)
 have hci : ∀ v ∈ [u, s, l, p], id ∉ Ae v := fun v hv hm => by have := Bc (ho v hv) id hm; omega
 obtain ⟨v1, v2, v3, v4⟩ := hcf.vcs
 simp only [go_sem, ↓reduceIte, Nat.reduceEqDiff, reduceCtorEq, Nat.reduceAdd, Nat.reduceLeDiff, Nat.reduceMul, v1, v2, v3, v4]
 refine Af ?_
 simp only [go_sem, ↓reduceIte, Nat.reduceEqDiff, reduceCtorEq, Nat.reduceAdd, Nat.reduceLeDiff, Nat.reduceMul, v1, v2, v3, v4]
 refine Ap rfl (fun m' h hz hm => Ab3 c1.1 hcf h1 h2 h3 h4 hci hn h (hz id c1.1.arg hw) (hm.trans hnr)) rfl hw1 fun r H2 ⟨A, sa, oa, hx, c2⟩ => ?_
 have c2 : CX H1 H2 c id := c2
 have hcf2 : K5 H2 cf u s l p := ⟨hcf.ur.cx c2 (hci u (by simp)), hcf.sr.cx c2 (hci s (by simp)), hcf.lk.cx c2 (hci l (by simp)), hcf.px.cx c2 (hci p (by simp))⟩
 simp only [go_sem, ↓reduceIte, Nat.reduceEqDiff, reduceCtorEq, Nat.reduceAdd, Nat.reduceLeDiff, Nat.reduceMul, v1, v2, v3, v4]
 refine Ap rfl (fun m' h hz hm => xV hcf2 h1 h2 h3 h4 sa hx h (hm.trans hnr)) rfl (fun j hj => hw1 j (C8 c2.2.2 hj)) fun r H3 ⟨wv, ro, e, p3, hv⟩ => ?_
 subst e
 have p3 : H2 <+: H3 := p3
 have hv : fB H2.length H3 wv := hv
 have c3 := (c1.trans c2).trans (CX.ofPre c2.1 p3)
 have hn2 : H.length ≤ H2.length := C8 c1.2.2 c2.2.2
 have fin := hv.mono hn2
 rcases hv with e | ⟨κ, w, f, e, q, i, z, o⟩ <;> subst e
 ·simp only [go_sem, ↓reduceIte, Nat.reduceEqDiff, reduceCtorEq, Nat.reduceAdd, Nat.reduceLeDiff, Nat.reduceMul, List.getElem?_toArray, Bd, v1, v2, v3, v4]
  refine ⟨by rfl, ?_⟩
  exact ⟨c3, fin⟩
 ·have V := q.vcs
  simp only [go_sem, ↓reduceIte, Nat.reduceEqDiff, reduceCtorEq, Nat.reduceAdd, Nat.reduceLeDiff, Nat.reduceMul, List.getElem?_toArray, Bd, v1, v2, v3, v4, V]
  refine ⟨by rfl, ?_⟩
  exact ⟨c3, fin⟩
theorem f54 {H : Hp} {v : Value} {l : List Int} (hl : fL H v l) : A4 EE 54 [v] H fun r => ∃ x : Int, r = .int .i64 x ∧ x ≤ 90 := by
 refine Ar rfl rfl k54 (by simp [xK]) fun m hw => ?_
 have e8 : ¬ ((8 : Int) = 0) := by decide
 simp only [go_sem, ↓reduceIte, Nat.reduceEqDiff, reduceCtorEq, Nat.reduceAdd, Nat.reduceLeDiff, Nat.reduceMul, xK, hl.len, e8]
 cases q : decide (IntKind.i64.wrap (8 + IntKind.i64.wrap (Int.tdiv (l.length : Int) 8)) > 90) <;> simp only [go_sem, ↓reduceIte, Nat.reduceEqDiff, reduceCtorEq, Nat.reduceAdd, Nat.reduceLeDiff, Nat.reduceMul]
 ·exact ⟨_, rfl, by have := Au q; omega⟩
 ·exact ⟨_, rfl, by omega⟩
def Uc (r : Value) (H : Hp) : Prop := ∃ w u s l p n t k a c h e x d, r = .agg #[u, s, l, p, .int .i64 w.cf.skew, .int .i64 w.now, .int .i64 w.fresh, n, t, k, a, c, h, e, x, d] ∧ T7 H w u s l p n t k a c h e x d ∧ Vk w
theorem Pe.z {w : Wd} (h : Pe w) : Vk w := ⟨fun z hz => C8 (h.net z hz) (by decide), fun z hz => C8 (h.tms z hz) (by decide), fun z hz => ⟨C8 (h.crs z hz).1 (by decide), (h.crs z hz).2⟩⟩
theorem Uc.of {κ : Nat → Nat} {H : Hp} {w : Wd} {f : Rf} (q : He κ H w f) (z : Vk w) : Uc (Mv w f) H := ⟨w, _, _, _, _, _, _, _, _, _, _, _, _, _, rfl, q.base, z⟩
theorem Sm {H : Hp} : Uc yF H := ⟨⟨⟨[], [], [], [], 0⟩, 0, 0, [], [], [], [], [], [], [], [], []⟩, _, _, _, _, _, _, _, _, _, _, _, _, _, rfl, ⟨⟨Bl, Bl, Bl, Bl⟩, Bl, Bl, Bl, Bl, Bl, Bl, Bl, Bl, Bl⟩, ⟨by simp, by simp, by simp⟩⟩
theorem Eo.go {κ : Nat → Nat} {H H' : Hp} {w : Wd} {f : Rf} {c : Value} {id : Nat} (q : He κ H w f) (h : CX H H' c id) (hk : κ id = 99) (hid : id < H.length) : ∃ κ', He κ' H' w f ∧ κ' id = 99 := ⟨_, q.cx h hk, (A2 hid).trans hk⟩
theorem Cr.cells0 {H : Hp} {v : Value} {l : List I7} {κ : Nat → Nat} (h : C9 κ 7 (Sa κ H) 15 H v l) (h1 : 0 < l.length) : ∃ (x : I7) (id p : Nat) (o cs : List Value), x ∈ l ∧ H[id]? = some o ∧ (o.drop p).take 15 = cs ∧ Sa κ H x cs ∧ p + 15 ≤ o.length ∧
  ∀ (s : St) (y : X), Av s.ρ y = some v → B4 s 15 y (.c (.int .i64 0)) = some (.val (.pointer (some ⟨id, p, some o.length⟩)), s) := by
 obtain ⟨id, p, o, ho, hr, hp, hia⟩ := h.1.elem (i := 0) (B7 h1)
 exact ⟨_, id, p, o, _, List.getElem_mem h1, ho, rfl, hr, hp, fun s y hy => hia s y _ hy rfl⟩
theorem f53 {m : Md} {H : Hp} {c : Value} {id : Nat} {n : Int} (hc : K6 H c id) (hn : n ≤ 90) (hw0 : Wr m H) (hw : m.wr id = true) (hnr : m.nr = false) : Ci EE m 53 [c, .int .i64 n] H fun r H' => Uc r H' := by
 have hid := hc.lt
 have hwx : ∀ {H' : Hp}, CX H H' c id → Wr m H' := fun h j hj => hw0 j (C8 h.2.2 hj)
 refine Bt rfl rfl k53 (by simp [wV]) ?_
 simp only [go_sem, ↓reduceIte, Nat.reduceEqDiff, reduceCtorEq, Nat.reduceAdd, Nat.reduceLeDiff, Nat.reduceMul, wV]
 refine Aq (f91 hc hn hw0 hw hnr) rfl fun r H1 ⟨c1, hv⟩ => ?_
 rcases hv with e | ⟨κ, w, f, e, q, i, z, o⟩ <;> subst e
 ·simp only [go_sem, ↓reduceIte, Nat.reduceEqDiff, reduceCtorEq, Nat.reduceAdd, Nat.reduceLeDiff, Nat.reduceMul]
  refine Aq (Hd c1 hw) rfl fun r H2 ⟨b1, e, c2⟩ => ?_
  subst e
  simp only [go_sem, ↓reduceIte, Nat.reduceEqDiff, reduceCtorEq, Nat.reduceAdd, Nat.reduceLeDiff, Nat.reduceMul, Lm]
  cases b1 <;> simp only [go_sem, ↓reduceIte, Nat.reduceEqDiff, reduceCtorEq, Nat.reduceAdd, Nat.reduceLeDiff, Nat.reduceMul, Lm]
  ·exact Sm
  ·exact Sm
 have V := q.vcs
 simp only [go_sem, ↓reduceIte, Nat.reduceEqDiff, reduceCtorEq, Nat.reduceAdd, Nat.reduceLeDiff, Nat.reduceMul, V]
 refine Aq (Hd (CX.refl c1.1) hw) rfl fun r H2 ⟨b1, e, g2⟩ => ?_
 subst e
 have hk := z id hid
 obtain ⟨κ2, q, hk⟩ := q.go g2 hk c1.1.lt
 have c2 := c1.trans g2
 have qa := q.a (by decide)
 cases b1 <;> simp only [go_sem, ↓reduceIte, Nat.reduceEqDiff, reduceCtorEq, Nat.reduceAdd, Nat.reduceLeDiff, Nat.reduceMul, V, qa.1.len, i.wl]
 ·exact Uc.of q i.z
 have d6 : decide (((6 : Nat) : Int) = 0) = false := by decide
 simp only [go_sem, ↓reduceIte, Nat.reduceEqDiff, reduceCtorEq, Nat.reduceAdd, Nat.reduceLeDiff, Nat.reduceMul, V, d6]
 refine Aq (Cs (CX.refl c2.1) hw) rfl fun r H3 ⟨y, e, _, _, g3⟩ => ?_
 subst e
 obtain ⟨κ3, q, hk⟩ := q.go g3 hk c2.1.lt
 have c3 := c2.trans g3
 have hm : MW m f := fun v hv j hj => hw0 j (Bc (o v hv) j hj)
 simp only [go_sem, ↓reduceIte, Nat.reduceEqDiff, reduceCtorEq, Nat.reduceAdd, Nat.reduceLeDiff, Nat.reduceMul, V]
 cases y0 : decide (y = 0) <;> simp only [go_sem, ↓reduceIte, Nat.reduceEqDiff, reduceCtorEq, Nat.reduceAdd, Nat.reduceLeDiff, Nat.reduceMul, V]
 rotate_left
 ·refine Aq (Ku [-1, 100000, 100001] (CX.refl c3.1) (J3 hid c3.2.2) hw (by decide) (by decide)) rfl fun r H4 ⟨x, _, e, g4⟩ => ?_
  subst e
  obtain ⟨κ4, q, hk⟩ := q.go g4 hk c3.1.lt
  simp only [go_sem, ↓reduceIte, Nat.reduceEqDiff, reduceCtorEq, Nat.reduceAdd, Nat.reduceLeDiff, Nat.reduceMul, V]
  exact Uc.of (q.num x w.fresh) ⟨i.z.net, i.z.tms, i.z.crs⟩
 cases y1 : decide (y = 1) <;> simp only [go_sem, ↓reduceIte, Nat.reduceEqDiff, reduceCtorEq, Nat.reduceAdd, Nat.reduceLeDiff, Nat.reduceMul, V]
 rotate_left
 ·refine Aq (Ku [0, 100, 1000000, 1000001] (CX.refl c3.1) (J3 hid c3.2.2) hw (by decide) (by decide)) rfl fun r H4 ⟨x, _, e, g4⟩ => ?_
  subst e
  obtain ⟨κ4, q, hk⟩ := q.go g4 hk c3.1.lt
  simp only [go_sem, ↓reduceIte, Nat.reduceEqDiff, reduceCtorEq, Nat.reduceAdd, Nat.reduceLeDiff, Nat.reduceMul, V]
  exact Uc.of (q.num w.now x) ⟨i.z.net, i.z.tms, i.z.crs⟩
 cases y2 : decide (y = 2) <;> simp only [go_sem, ↓reduceIte, Nat.reduceEqDiff, reduceCtorEq, Nat.reduceAdd, Nat.reduceLeDiff, Nat.reduceMul, V]
 rotate_left
 ·refine Af ?_
  simp only [go_sem, ↓reduceIte, Nat.reduceEqDiff, reduceCtorEq, Nat.reduceAdd, Nat.reduceLeDiff, Nat.reduceMul, V]
  refine Ap rfl (fun m' h hz _ => f95 c3.1 h (hz id c3.1.arg hw)) rfl (hwx c3) fun r H4 ⟨x, e, hx, g4⟩ => ?_
  subst e
  obtain ⟨κ4, q, hk⟩ := q.go g4 hk c3.1.lt
  have c4 := c3.trans g4
  simp only [go_sem, ↓reduceIte, Nat.reduceEqDiff, reduceCtorEq, Nat.reduceAdd, Nat.reduceLeDiff, Nat.reduceMul, V]
  obtain ⟨v', H5, a1, a2, a3, _⟩ := (q.n (by decide)).app1 (m := m) (bytes := 16) (a := x) (cs := [.string x]) (hwx c4) (hm f.n (by simp [Be])) (fun _ => rfl) rfl rfl (by have := i.bd; unfold Ev.room; omega) (by have := i.bd; unfold Ev.room; omega)
  rw [a1]
  rotate_left
  ·rfl
  ·rfl
  ·rfl
  have V' := a2.1.vc
  simp only [go_sem, ↓reduceIte, Nat.reduceEqDiff, reduceCtorEq, Nat.reduceAdd, Nat.reduceLeDiff, Nat.reduceMul, V, V']
  refine ⟨by rfl, ?_⟩
  exact Uc.of ((Eo.keep q a3 (by decide)).f1 a2) ⟨fun z hz => by
   rcases Lh hz with h | h
   ·exact i.z.net z h
   ·rw [bJ h]; omega, i.z.tms, i.z.crs⟩
 cases y3 : decide (y = 3) <;> simp only [go_sem, ↓reduceIte, Nat.reduceEqDiff, reduceCtorEq, Nat.reduceAdd, Nat.reduceLeDiff, Nat.reduceMul, V]
 rotate_left
 ·refine Af ?_
  simp only [go_sem, ↓reduceIte, Nat.reduceEqDiff, reduceCtorEq, Nat.reduceAdd, Nat.reduceLeDiff, Nat.reduceMul, V]
  refine Ap rfl (fun m' h hz _ => Hd (CX.refl c3.1) (hz id c3.1.arg hw)) rfl (hwx c3) fun r H4 ⟨b1, e, g4⟩ => ?_
  subst e
  obtain ⟨κ4, q, hk⟩ := q.go g4 hk c3.1.lt
  have c4 := c3.trans g4
  simp only [go_sem, ↓reduceIte, Nat.reduceEqDiff, reduceCtorEq, Nat.reduceAdd, Nat.reduceLeDiff, Nat.reduceMul, V]
  refine Ap rfl (fun m' h hz _ => Cs (CX.refl c4.1) (hz id c4.1.arg hw)) rfl (hwx c4) fun r H5 ⟨x1, e, _, _, g5⟩ => ?_
  subst e
  obtain ⟨κ5, q, hk⟩ := q.go g5 hk c4.1.lt
  have c5 := c4.trans g5
  simp only [go_sem, ↓reduceIte, Nat.reduceEqDiff, reduceCtorEq, Nat.reduceAdd, Nat.reduceLeDiff, Nat.reduceMul, V]
  refine Ap rfl (fun m' h hz _ => Cs (CX.refl c5.1) (hz id c5.1.arg hw)) rfl (hwx c5) fun r H6 ⟨x2, e, _, _, g6⟩ => ?_
  subst e
  obtain ⟨κ6, q, hk⟩ := q.go g6 hk c5.1.lt
  have c6 := c5.trans g6
  obtain ⟨i9, p9, o9, ho9, hp9, hid9, hia9, hst⟩ := (q.a (by decide)).put (n := 0) (by omega) (by rw [i.wl]; omega)
  have hia0 := fun (s : St) (x : X) (hx : Av s.ρ x = some f.a) => hia9 s x (.c (.int .i64 0)) hx rfl
  have hwr := hm f.a (by simp [Be]) i9 hid9
  obtain ⟨k1, k2⟩ := hst (b1, 1, x1, IntKind.i64.wrap (x2 - 1)) _ rfl rfl
  simp only [go_sem, ↓reduceIte, Nat.reduceEqDiff, reduceCtorEq, Nat.reduceAdd, Nat.reduceLeDiff, Nat.reduceMul, V, hia0, ho9, hp9, hwr]
  refine ⟨by rfl, ?_⟩
  have Q9 := (Eo.keep q k2 (by decide)).f3 k1
  have z9 : Vk { w with wts := w.wts.set (Int.toNat 0) (b1, 1, x1, IntKind.i64.wrap (x2 - 1)) } := ⟨i.z.net, i.z.tms, i.z.crs⟩
  have r9 := Uc.of Q9 z9
  exact r9
 cases y4 : decide (y = 4) <;> simp only [go_sem, ↓reduceIte, Nat.reduceEqDiff, reduceCtorEq, Nat.reduceAdd, Nat.reduceLeDiff, Nat.reduceMul, V]
 rotate_left
 ·refine Af ?_
  simp only [go_sem, ↓reduceIte, Nat.reduceEqDiff, reduceCtorEq, Nat.reduceAdd, Nat.reduceLeDiff, Nat.reduceMul, V]
  refine Ap rfl (fun m' h hz _ => wE (CX.refl c3.1) h (hz id c3.1.arg hw)) rfl (hwx c3) fun r H4 ⟨x, e, hx, hx2, g4⟩ => ?_
  subst e
  obtain ⟨κ4, q, hk⟩ := q.go g4 hk c3.1.lt
  have c4 := c3.trans g4
  simp only [go_sem, ↓reduceIte, Nat.reduceEqDiff, reduceCtorEq, Nat.reduceAdd, Nat.reduceLeDiff, Nat.reduceMul, V]
  obtain ⟨v', H5, a1, a2, a3, _⟩ := (q.c (by decide)).app1 (m := m) (bytes := 72) (a := x) (cs := T5 x) (hwx c4) (hm f.c (by simp [Be])) (fun _ => rfl) rfl rfl (by have := i.bd; unfold Ev.room; omega) (by have := i.bd; unfold Ev.room; omega)
  rw [a1]
  rotate_left
  ·rfl
  ·rfl
  ·rfl
  have V' := a2.1.vc
  simp only [go_sem, ↓reduceIte, Nat.reduceEqDiff, reduceCtorEq, Nat.reduceAdd, Nat.reduceLeDiff, Nat.reduceMul, V, V']
  refine ⟨by rfl, ?_⟩
  exact Uc.of ((Eo.keep q a3 (by decide)).f4 a2) ⟨i.z.net, i.z.tms, fun z hz => by
   rcases Lh hz with h | h
   ·exact i.z.crs z h
   ·rw [bJ h]; exact ⟨by omega, hx2⟩⟩
 cases y5 : decide (y = 5) <;> simp only [go_sem, ↓reduceIte, Nat.reduceEqDiff, reduceCtorEq, Nat.reduceAdd, Nat.reduceLeDiff, Nat.reduceMul, V]
 rotate_left
 ·refine Af ?_
  simp only [go_sem, ↓reduceIte, Nat.reduceEqDiff, reduceCtorEq, Nat.reduceAdd, Nat.reduceLeDiff, Nat.reduceMul, V]
  refine Ap rfl (fun m' h hz _ => Cs (CX.refl c3.1) (hz id c3.1.arg hw)) rfl (hwx c3) fun r H4 ⟨x, e, _, _, g4⟩ => ?_
  subst e
  obtain ⟨κ4, q, hk⟩ := q.go g4 hk c3.1.lt
  have c4 := c3.trans g4
  simp only [go_sem, ↓reduceIte, Nat.reduceEqDiff, reduceCtorEq, Nat.reduceAdd, Nat.reduceLeDiff, Nat.reduceMul, V]
  obtain ⟨v', H5, a1, a2, a3, _⟩ := (q.d (by decide)).app1 (m := m) (bytes := 8) (a := x) (cs := [.int .i64 x]) (hwx c4) (hm f.d (by simp [Be])) (fun _ => rfl) rfl rfl (by have := i.bd; unfold Ev.room; omega) (by have := i.bd; unfold Ev.room; omega)
  rw [a1]
  rotate_left
  ·rfl
  ·rfl
  ·rfl
  have V' := a2.1.vc
  simp only [go_sem, ↓reduceIte, Nat.reduceEqDiff, reduceCtorEq, Nat.reduceAdd, Nat.reduceLeDiff, Nat.reduceMul, V, V']
  refine ⟨by rfl, ?_⟩
  exact Uc.of ((Eo.keep q a3 (by decide)).f8 a2) ⟨i.z.net, i.z.tms, i.z.crs⟩
 cases y6 : decide (y = 6) <;> simp only [go_sem, ↓reduceIte, Nat.reduceEqDiff, reduceCtorEq, Nat.reduceAdd, Nat.reduceLeDiff, Nat.reduceMul, V]
 rotate_left
 ·have qx := q.x (by decide)
  simp only [go_sem, ↓reduceIte, Nat.reduceEqDiff, reduceCtorEq, Nat.reduceAdd, Nat.reduceLeDiff, Nat.reduceMul, V, qx.1.len]
  cases q8 : decide ((w.acs.length : Int) > 0) <;> simp only [go_sem, ↓reduceIte, Nat.reduceEqDiff, reduceCtorEq, Nat.reduceAdd, Nat.reduceLeDiff, Nat.reduceMul, V]
  ·exact Uc.of q i.z
  have q8 := As q8
  obtain ⟨x, i2, p2, o2, cs, hx, ho, hcs, hR, hp, hia⟩ := Cr.cells0 qx (by omega)
  have hR' := hR
  obtain ⟨pa, va, e, _⟩ := hR'
  have hcs' := hcs
  rw [e] at hcs'
  refine Af ?_
  simp only [go_sem, ↓reduceIte, Nat.reduceEqDiff, reduceCtorEq, Nat.reduceAdd, Nat.reduceLeDiff, Nat.reduceMul, V, hia, ho, hcs', hp]
  obtain ⟨v', H5, a1, a2, a3, _⟩ := qx.app1 (m := m) (bytes := 160) (a := x) (cs := cs) (hwx c3) (hm f.x (by simp [Be])) (fun h => by rw [hnr] at h; cases h) (by rw [e]; rfl) hR (by have := i.bd; unfold Ev.room; omega) (by have := i.bd; unfold Ev.room; omega)
  rw [a1]
  rotate_left
  ·rfl
  ·rfl
  ·rw [e]; rfl
  have V' := a2.1.vc
  simp only [go_sem, ↓reduceIte, Nat.reduceEqDiff, reduceCtorEq, Nat.reduceAdd, Nat.reduceLeDiff, Nat.reduceMul, V, V']
  refine ⟨by rfl, ?_⟩
  exact Uc.of ((Eo.keep q a3 (by decide)).f7 (a2.mono fun _ _ h => h.keep a3 (by decide))) ⟨i.z.net, i.z.tms, i.z.crs⟩
 have qe := q.e (by decide)
 simp only [go_sem, ↓reduceIte, Nat.reduceEqDiff, reduceCtorEq, Nat.reduceAdd, Nat.reduceLeDiff, Nat.reduceMul, V, qe.1.len]
 cases q8 : decide ((w.log.length : Int) > 0) <;> simp only [go_sem, ↓reduceIte, Nat.reduceEqDiff, reduceCtorEq, Nat.reduceAdd, Nat.reduceLeDiff, Nat.reduceMul, V]
 ·exact Uc.of q i.z
 have q8 := As q8
 obtain ⟨i9, p9, o9, ho9, hp9, hids, hR, hia9, hst⟩ := qe.1.both (i := 0) (by omega)
 have hR : (o9.drop p9).take 11 = Rt (w.log[0]'(by omega)) := hR
 generalize w.log[0]'(by omega) = x at hR
 have hia0 := fun (s : St) (y : X) (hx : Av s.ρ y = some f.e) => hia9 s y (.c (.int .i64 0)) hx rfl
 have hid9 : i9 ∈ Ae f.e := by rw [hids]; simp
 have hwr := hm f.e (by simp [Be]) i9 hid9
 have r5 := Al hR (j := 5) (by omega)
 simp only [Rt, List.getElem?_cons_zero, List.getElem?_cons_succ] at r5
 have hp1 : p9 + 5 + 1 ≤ o9.length := by omega
 refine Af ?_
 simp only [go_sem, ↓reduceIte, Nat.reduceEqDiff, reduceCtorEq, Nat.reduceAdd, Nat.reduceLeDiff, Nat.reduceMul, V, hia0, ho9, r5, hp1, hwr]
 refine ⟨by rfl, ?_⟩
 rw [cX hR (by omega) hp9]
 have k1 := hst { x with ky := IntKind.i64.wrap (x.ky + 1) } (Rt { x with ky := IntKind.i64.wrap (x.ky + 1) }) rfl rfl
 have k2 : Kh κ3 κ3 H3 (H3.set i9 (spl o9 p9 (Rt { x with ky := IntKind.i64.wrap (x.ky + 1) }))) 6 := ⟨by simp, fun _ _ => rfl, fun j hj hn => List.getElem?_set_ne fun e => hn (by rw [← e]; exact qe.2.1 i9 hid9)⟩
 have Q9 := (Eo.keep q k2 (by decide)).f6 ⟨k1, qe.2.1, qe.2.2⟩
 have z9 : Vk { w with log := w.log.set 0 { x with ky := IntKind.i64.wrap (x.ky + 1) } } := ⟨i.z.net, i.z.tms, i.z.crs⟩
 have r9 := Uc.of Q9 z9
 exact r9
theorem f18 {m : Md} {H : Hp} {v : Value} {l : List Int} (hl : fL H v l) (hw : Wr m H) (hnr : m.nr = false) : Ci EE m 18 [v] H fun r H' => Uc r H' := by
 refine Bt rfl rfl cS (by simp [uS]) ?_
 simp only [go_sem, ↓reduceIte, Nat.reduceEqDiff, reduceCtorEq, Nat.reduceAdd, Nat.reduceLeDiff, Nat.reduceMul, uS]
 refine Aa (fun m' h => f52 hl) rfl hw fun r H1 ⟨hc, p1, n1⟩ => ?_
 have hw1 := hw.pre p1
 simp only [go_sem, ↓reduceIte, Nat.reduceEqDiff, reduceCtorEq, Nat.reduceAdd, Nat.reduceLeDiff, Nat.reduceMul]
 refine Aa (fun m' h => f54 (hl.pre p1) m' h) rfl hw1 fun r2 H2 ⟨⟨x, e, hx⟩, e2⟩ => ?_
 subst e
 have e2 : H2 = H1 := e2
 subst e2
 simp only [go_sem, ↓reduceIte, Nat.reduceEqDiff, reduceCtorEq, Nat.reduceAdd, Nat.reduceLeDiff, Nat.reduceMul]
 refine Aq (f53 hc hx hw1 (hw _ (Nat.le_refl _)) hnr) rfl fun r H3 he => ?_
 obtain ⟨w, u, s, l, p, n, t, k, a, c, h, e, x, d, er, q, z⟩ := he
 subst er
 have V := q.vcs
 simp only [go_sem, ↓reduceIte, Nat.reduceEqDiff, reduceCtorEq, Nat.reduceAdd, Nat.reduceLeDiff, Nat.reduceMul, V]
 exact ⟨w, u, s, l, p, n, t, k, a, c, h, e, x, d, rfl, q, z⟩
def Ou (b : ByteArray) : Nat := b.data.toList.countP fun c => decide (c.toNat = 10)
theorem Lz (a b : ByteArray) : Ou (a ++ b) = Ou a + Ou b := by
 unfold Ou
 rw [ByteArray.data_append, Array.toList_append, List.countP_append]
theorem cF {l : List Nat} (h : ∀ x ∈ l, x < 256 ∧ x ≠ 10) : Ou (Bo l) = 0 := by
 unfold Ou Bo
 refine List.countP_eq_zero.2 fun c hc => ?_
 simp only [List.mem_map] at hc
 obtain ⟨x, hx, rfl⟩ := hc
 have := h x hx
 simp only [decide_eq_true_eq]
 rw [UInt8.toNat_ofNat']
 omega
theorem gS {n : Int} : ∀ x ∈ Xw n, 48 ≤ x := fun x hx => by
 unfold Xw at hx
 obtain ⟨k, _, rfl⟩ := List.mem_map.1 hx
 unfold Mc
 omega
theorem dH (n : Int) : Ou (Bb n) = 0 := by
 refine cF fun x hx => ?_
 unfold Rd at hx
 split at hx
 ·simp at hx; omega
 ·rcases Lh hx with h | h
  ·split at h
   ·simp at h; omega
   ·cases h
  ·have h1 := Zl x (List.mem_reverse.1 h)
   have h2 := gS x (List.mem_reverse.1 h)
   omega
theorem Sy : ∀ (l : List Int) (a : ByteArray), Ou (F0 a l) = Ou a
 | [], a => rfl
 | n :: l, a => by
  have := Sy l (a ++ ⟨#[32]⟩ ++ Bb n)
  show Ou (F0 (a ++ ⟨#[32]⟩ ++ Bb n) l) = _
  rw [this, Lz, Lz, dH]
  rfl
theorem Sb {w : ByteArray} {l : List Int} (h : Ou w = 0) : Ou (Ir w l) = 1 := by
 unfold Ir
 rw [Lz, Sy, h]
 rfl
theorem mA (k : Int) : Ou (El k) = 0 := by
 unfold El
 split
 ·rfl
 ·split
  ·rfl
  ·split
   ·rfl
   ·split <;> rfl
theorem lO (l : List Pb) (s : ByteArray) : Ou (l.foldl (fun s e => s ++ aM e) s) = Ou s + l.length := by
 induction l generalizing s with
 | nil => rfl
 | cons e l ih =>
  rw [List.foldl_cons, ih, Lz, show Ou (aM e) = 1 from Sb (mA _), List.length_cons]
  omega
theorem mN (l : List I7) (s : ByteArray) : Ou (M8 s l) = Ou s + l.length := by
 unfold M8
 induction l generalizing s with
 | nil => rfl
 | cons e l ih =>
  rw [List.foldl_cons, ih, Lz, show Ou (bM e) = 1 from Sb rfl, List.length_cons]
  omega
theorem jU {w : Wd} (h : A6 w = true) : Ou (dB w) = w.log.length + w.acs.length := by
 rw [Rn h, mN]
 unfold Hf
 rw [lO]
 have : Ou ⟨#[]⟩ = 0 := rfl
 omega
theorem iB (l : List Pb) : cn 1 l + cn 2 l + cn 3 l + cn 4 l ≤ l.length := by
 unfold cn
 induction l with
 | nil => simp
 | cons e l ih =>
  simp only [List.countP_cons, List.length_cons]
  by_cases h1 : e.kd = 1
  ·simp [h1]; omega
  by_cases h2 : e.kd = 2
  ·simp [h2]; omega
  by_cases h3 : e.kd = 3
  ·simp [h3]; omega
  by_cases h4 : e.kd = 4
  ·simp [h4]; omega
  simp [h1, h2, h3, h4]
  omega
theorem kT {w : Wd} (h : A6 w = true) : bz w = -1 ↔ w.acs.length = 0 := by
 by_cases h0 : 0 < w.acs.length
 ·rw [Up h h0]
  unfold Ue Xp
  refine ⟨fun e => ?_, fun e => by omega⟩
  split at e
  ·omega
  ·split at e <;> omega
 ·rw [O7 fun e => h0 e.2]
  exact ⟨fun _ => by omega, fun _ => rfl⟩
theorem aB {b : ByteArray} {i : Nat} (h : i < b.size) : ∃ c : UInt8, b[i]? = some c ∧ b.data.toList[i]? = some c := by
 refine ⟨b[i], getElem?_pos b i h, ?_⟩
 rw [Array.getElem?_toList]
 exact getElem?_pos b.data i h
theorem Ci.len {m : Md} {f : Nat} {vs : List Value} {H : Hp} {Q : Value → Hp → Prop} (h : Ci EE m f vs H Q) : Ci EE m f vs H fun r H' => Q r H' ∧ H.length ≤ H'.length := by
 obtain ⟨k, r, H', e, hq⟩ := h
 exact ⟨k, r, H', e, hq, ((Z5 (E := EE) (fun f p h => by cases h) k).1 m f vs H r H' e).len⟩
theorem tD {m : Md} {H : Hp} {v : Value} {cl : List Int} (hv : fL H v cl) (hw : Wr m H) (hnr : m.nr = false) : Ci EE m 6 [v] H fun r _ => r = .bool true := by
 refine Bt rfl rfl k6 (by simp [c6]) ?_
 have a17 := Ax (f17 hv)
 simp only [go_sem, ↓reduceIte, Nat.reduceEqDiff, reduceCtorEq, Nat.reduceAdd, Nat.reduceLeDiff, Nat.reduceMul, c6, a17, hw]
 refine Bf.intro (fun q0 => ?_) (fun q0 => ?_) <;> simp only [go_sem, ↓reduceIte, Nat.reduceEqDiff, reduceCtorEq, Nat.reduceAdd, Nat.reduceLeDiff, Nat.reduceMul]
 refine Aq (f18 hv hw hnr).len rfl fun r H1 ⟨⟨w, u, s, l, p, n, t, k, a, c, h, e, x, d, er, q, z⟩, hlen⟩ => ?_
 subst er
 have V := q.vcs
 have hw1 : Wr m H1 := fun id hid => hw id (C8 hlen hid)
 have a14 := Ax (f14 q z)
 have a13 := Ax (f13 q z)
 have a10 := Ax (f10 q z)
 have a8 := Ax (f8 q z)
 have a16 := Ax (f16 q z)
 have a15 := Ax (f15 q z)
 have a19 := Ax (rA q z)
 obtain ⟨x1, x2, x3, x4, x5, x6, ec⟩ := pL w
 have ec' := ec
 rw [ec] at a10 a8
 have ss : ∀ b : ByteArray, decide (b = b) = true := fun b => by simp
 have ii : ∀ b : Int, decide (b = b) = true := fun b => by simp
 simp only [go_sem, ↓reduceIte, Nat.reduceEqDiff, reduceCtorEq, Nat.reduceAdd, Nat.reduceLeDiff, Nat.reduceMul, V, a14, a10, a16, hw1]
 refine Af ?_
 simp only [go_sem, ↓reduceIte, Nat.reduceEqDiff, reduceCtorEq, Nat.reduceAdd, Nat.reduceLeDiff, Nat.reduceMul, V, a13, hw1, ss, ii, a8, a15]
 refine ⟨by rfl, ?_⟩
 simp only [go_sem, ↓reduceIte, Nat.reduceEqDiff, reduceCtorEq, Nat.reduceAdd, Nat.reduceLeDiff, Nat.reduceMul, a19, hw1]
 cases q1 : A6 w <;> simp only [go_sem, ↓reduceIte, Nat.reduceEqDiff, reduceCtorEq, Nat.reduceAdd, Nat.reduceLeDiff, Nat.reduceMul, V]
 ·rw [Zh q1, O7 fun e => by rw [e.1] at q1; cases q1]
  simp only [go_sem, ↓reduceIte, Nat.reduceEqDiff, reduceCtorEq, Nat.reduceAdd, Nat.reduceLeDiff, Nat.reduceMul, ss, ii]
 have hz : (dB w).size ≤ 100000 := by
  have h1 := Q8 w.acs (Hf w.log)
  have h2 := Ny w.log
  obtain ⟨h3, h4, _⟩ := Kx q1
  rw [Rn q1]
  omega
 have hnl := jU q1
 have hbz := kT q1
 obtain ⟨l1, l2, _⟩ := Kx q1
 rw [Va q1] at ec'
 simp only [Value.agg.injEq, Array.mk.injEq, List.cons.injEq, Value.int.injEq, true_and, and_true] at ec'
 obtain ⟨rfl, rfl, rfl, rfl, rfl, rfl⟩ := ec'
 have hs := iB w.log
 have b1 := Ie (k := 1) (l := w.log)
 have b2 := Ie (k := 2) (l := w.log)
 have b3 := Ie (k := 3) (l := w.log)
 have b4 := Ie (k := 4) (l := w.log)
 have w1 := Ab (cn 1 w.log + cn 2 w.log) (by omega) (by omega)
 have w2 := Ab (cn 1 w.log + cn 2 w.log + cn 3 w.log) (by omega) (by omega)
 have w3 := Ab (cn 1 w.log + cn 2 w.log + cn 3 w.log + cn 4 w.log) (by omega) (by omega)
 have w4 := Ab ((w.log.length : Int) + (w.acs.length : Int)) (by omega) (by omega)
 have d2 : decide (cn 1 w.log + cn 2 w.log + cn 3 w.log + cn 4 w.log ≤ (w.log.length : Int)) = true := decide_eq_true hs
 have d4 : decide (decide (bz w = -1) = decide ((w.acs.length : Int) = 0)) = true := by
  by_cases h0 : w.acs.length = 0
  ·rw [hbz.2 h0, h0]; rfl
  ·have e1 : decide (bz w = -1) = false := decide_eq_false fun e => h0 (hbz.1 e)
   have e2 : decide ((w.acs.length : Int) = 0) = false := decide_eq_false (by omega)
   rw [e1, e2]; rfl
 generalize dB w = sb at hz hnl
 refine Ak sb.size (fun i t' => (∃ g, t'.ρ 3 = .bx g [u, s, l, p, .int .i64 w.cf.skew, .int .i64 w.now, .int .i64 w.fresh, n, t, k, a, c, h, e, x, d]) ∧ t'.ρ 4 = .val (.string sb) ∧ (∃ g, t'.ρ 5 = .bx g [.int .i64 (cn 1 w.log), .int .i64 (cn 2 w.log), .int .i64 (cn 3 w.log), .int .i64 (cn 4 w.log), .int .i64 w.acs.length, .int .i64 w.lks.length]) ∧ t'.ρ 6 = .val (.int .i64 (bz w)) ∧ t'.ρ 7 = .val (.int .i64 ((sb.data.toList.take i).countP fun c => decide (c.toNat = 10) : Nat)) ∧ t'.ρ 8 = .val (.int .i64 i))
  (fun t' => (∃ g, t'.ρ 3 = .bx g [u, s, l, p, .int .i64 w.cf.skew, .int .i64 w.now, .int .i64 w.fresh, n, t, k, a, c, h, e, x, d]) ∧ (∃ g, t'.ρ 5 = .bx g [.int .i64 (cn 1 w.log), .int .i64 (cn 2 w.log), .int .i64 (cn 3 w.log), .int .i64 (cn 4 w.log), .int .i64 w.acs.length, .int .i64 w.lks.length]) ∧ t'.ρ 6 = .val (.int .i64 (bz w)) ∧ t'.ρ 7 = .val (.int .i64 (Ou sb : Nat))) ?_ ?_ ?_
 ·exact ⟨⟨_, by simp [Ah]; rfl⟩, by simp [Ah], ⟨_, by simp [Ah]; rfl⟩, by simp [Ah], by simp [Ah], by simp [Ah]⟩
 ·rintro i t' hi ⟨⟨g3, k3⟩, k4, ⟨g5, k5⟩, k6, k7, k8⟩
  simp only [go_sem, ↓reduceIte, Nat.reduceEqDiff, reduceCtorEq, Nat.reduceAdd, Nat.reduceLeDiff, Nat.reduceMul, k3, k4, k5, k6, k7, k8, Cn]
  cases qq : decide ((i : Int) < (sb.size : Int)) <;> simp only [go_sem, ↓reduceIte, Nat.reduceEqDiff, reduceCtorEq, Nat.reduceAdd, Nat.reduceLeDiff, Nat.reduceMul, k3, k4, k5, k6, k7, k8]
  ·have := Au qq
   rw [List.take_of_length_le (by rw [Array.length_toList]; show sb.size ≤ i; omega)]
   exact ⟨⟨_, rfl⟩, ⟨_, rfl⟩, rfl⟩
  have qq := As qq
  have hil : i < sb.size := by omega
  obtain ⟨b, hb, hb2⟩ := aB hil
  have hix : ∀ {t' : St} {x y : X}, Av t'.ρ x = some (.string sb) → Av t'.ρ y = some (.int .i64 i) → Ky t' x y = some (.val (.int .u8 b.toNat), t') := fun hx hy => qR hb hx hy
  have wi := Ab ((i : Int) + 1) (by omega) (by omega)
  have hcl : (sb.data.toList.take i).countP (fun c => decide (c.toNat = 10)) ≤ i := C8 List.countP_le_length (List.length_take_le _ _)
  have hcs : (sb.data.toList.take (i + 1)).countP (fun c => decide (c.toNat = 10)) = (sb.data.toList.take i).countP (fun c => decide (c.toNat = 10)) + if b.toNat = 10 then 1 else 0 := by
   obtain ⟨hl, hb3⟩ := Em hb2
   rw [List.take_succ_eq_append_getElem hl, List.countP_append, hb3]
   by_cases h0 : b.toNat = 10 <;> simp [h0]
  rw [hcs]
  generalize (sb.data.toList.take i).countP (fun c => decide (c.toNat = 10)) = m0 at *
  have wm := Ab ((m0 : Int) + 1) (by omega) (by omega)
  simp only [go_sem, ↓reduceIte, Nat.reduceEqDiff, reduceCtorEq, Nat.reduceAdd, Nat.reduceLeDiff, Nat.reduceMul, k3, k4, k5, k6, k7, k8, hix]
  cases q3 : decide ((b.toNat : Int) = 10) <;> simp only [go_sem, ↓reduceIte, Nat.reduceEqDiff, reduceCtorEq, Nat.reduceAdd, Nat.reduceLeDiff, Nat.reduceMul, k3, k4, k5, k6, k7, k8, wi, wm]
  ·have := Au q3
   rw [if_neg (by omega)]
   exact ⟨by omega, ⟨_, rfl⟩, ⟨_, rfl⟩, rfl, by simp⟩
  ·have := As q3
   rw [if_pos (by omega)]
   exact ⟨by omega, ⟨_, rfl⟩, ⟨_, rfl⟩, by simp, by simp⟩
 ·rintro t' ⟨⟨g3, k3⟩, ⟨g5, k5⟩, k6, k7⟩
  have d1 : decide (((Ou sb : Nat) : Int) = (w.log.length : Int) + (w.acs.length : Int)) = true := decide_eq_true (by omega)
  simp only [go_sem, ↓reduceIte, Nat.reduceEqDiff, reduceCtorEq, Nat.reduceAdd, Nat.reduceLeDiff, Nat.reduceMul, k3, k5, k6, k7, q.log.len, q.acs.len, w4, d1, w1, w2, w3, d2, ii, d4]
section
set_option maxRecDepth 100000
theorem bU : Ni Tryz.prog 5 1 (fun _ (n : Int) vs => vs = [.int .u8 n]) (fun n => (Lit.int .u8 n).wf = true) := Ni.int Tryz.underlying5 (by kernel_rfl)
theorem iT : Ik Tryz.prog 57 (fun M (l : List Int) v => fL M v l) (fun l => ∀ x ∈ l, (Lit.int .u8 x).wf = true) :=
 have h := Ik.slice (t := 57) (e := 5) Tryz.underlying57 (by kernel_rfl) (bU.conv (R' := fun _ (n : Int) vs => En eU n vs) (fun n => n) (fun _ _ _ h => h) (fun _ h => h) (fun _ h => h))
 ⟨h.mono, fun a b J M r => by
  obtain ⟨J', M', u, z, a1, a2, a3, a4, a5⟩ := h.arg a b J M r
  exact ⟨J', M', u, z, a1, a2, a3, a4, a5.2⟩⟩
end
end Go.Proofs.YtglboiahgpfjdaaGreat.Ev
