/- Texts of this proof, laid one behind the other: what each shows stands at its head. -/
import Derived.Test.YtpdkgbamakileaaB3
import Derived.Test.YtpdkgbamakileaaB6
import Derived.Test.YtpdkgbamakileaaB5
/- Steps, one after the other: both ways. -/
namespace Go.Proofs.Ytpdkgbamakileaa.Ev
set_option linter.all false
open Go
set_option maxRecDepth 4000

theorem stepsW_no {kt : List ByteArray} {kk : List Int} (h : knB kt kk = false) : stepsW kt kk = [] := by
  unfold stepsW
  rw [if_neg (by rw [h]; decide)]
theorem stepsW_yes {kt : List ByteArray} {kk : List Int} (h : knB kt kk = true) : stepsW kt kk = roundW kk capW capW (begW kt) := by
  unfold stepsW
  rw [if_pos h]
theorem capP : capW = 48708060 := by decide
theorem pass_ge {kt : List ByteArray} {kk : List Int} {l : List Wy} (hg : GdW kt l) : l.length ≤ (passW kk capW 0 l).length := (passW_gd (kk := kk) (f := capW) (i := 0) hg).2.length_le

/-- A round: where it ends, or what is left to do. -/
theorem round_on {kt : List ByteArray} {kk : List Int} {l : List Wy} {j : Nat} (hK : KnOk kt kk) (hg : GdW kt l) (hj : j ≤ l.length) (hne : ¬ (passW kk capW 0 l).length = l.length) :
    roundW kk capW (capW - j) l = roundW kk capW (capW - (j + 1)) (passW kk capW 0 l) ∧ j + 1 ≤ (passW kk capW 0 l).length ∧ j < capW := by
  have h1 := pass_ge (kk := kk) hg
  have h2 := ((passW_gd (kk := kk) (f := capW) (i := 0) hg).1).cap hK
  refine ⟨?_, by omega, by omega⟩
  rw [show capW - j = (capW - (j + 1)) + 1 by omega, roundW_step hne]

theorem f43 {m : Md} {H : Hp} {vt vk : Value} {kt : List ByteArray} {kk : List Int} (ht : SlS H vt kt) (hk : SlI H vk kk) (hz : ∀ x ∈ kt, x.size ≤ 4611686018427387904) (hw : Wr m H) :
    Fun EE m 43 [.agg #[vt, vk]] H fun r H' => FreshS eWy 3 H r H' (stepsW kt kk) := by
  refine fun_f rfl rfl k43 (by simp [c43]) ?_
  have hc := capP
  have p0 : H <+: H ++ [[]] := List.prefix_append _ _
  have s0 : SlWy (H ++ [[]]) (.slice (some ⟨H.length, 0, some 3⟩) 0 (0 * 3)) [] := own_newWy
  have o0 : OwnS H.length (.slice (some ⟨H.length, 0, some 3⟩) 0 (0 * 3)) := .inr ⟨_, _, _, _, rfl, Nat.le_refl _⟩
  generalize hwv : Value.slice (some ⟨H.length, 0, some 3⟩) 0 (0 * 3) = wv0 at s0 o0
  have t0 := ht.pre p0
  have k0 := hk.pre p0
  have a49 := fun {m draw t d ts Q} => callT_at (m := m) (draw := draw) (s := t) (d := d) (ts := ts) (Q := Q) (f49 t0 k0 hz)
  simp only [go_sem, ↓reduceIte, Nat.reduceEqDiff, reduceCtorEq, Nat.reduceAdd, Nat.reduceLeDiff, Nat.reduceMul, c43, fillL, hwv, t0.vc, k0.vc, a49, hw.pre p0]
  cases hkn : knB kt kk with
  | false =>
    simp only [go_sem, ↓reduceIte, Nat.reduceEqDiff, reduceCtorEq, Nat.reduceAdd, Nat.reduceLeDiff, Nat.reduceMul]
    rw [stepsW_no hkn]
    exact ⟨p0, s0, o0⟩
  | true =>
  have hK := kn_t.1 hkn
  rw [stepsW_yes hkn]
  generalize hT : roundW kk capW capW (begW kt) = T
  simp only [go_sem, ↓reduceIte, Nat.reduceEqDiff, reduceCtorEq, Nat.reduceAdd, Nat.reduceLeDiff, Nat.reduceMul]
  refine go_for kt.length (fun i s => H <+: s.H ∧ s.ρ 1 = .bx 0 [vt, vk] ∧ s.ρ 4 = .val (.int .i64 i) ∧ ∃ wv, s.ρ 3 = .val wv ∧ SlWy s.H wv (begW (kt.take i)) ∧ OwnS H.length wv)
    (fun s => H <+: s.H ∧ s.ρ 1 = .bx 0 [vt, vk] ∧ ∃ wv, s.ρ 3 = .val wv ∧ SlWy s.H wv (begW kt) ∧ OwnS H.length wv) ?_ ?_ ?_
  · exact ⟨p0, by simp [upd, ini], by simp [upd], wv0, by simp [upd], s0, o0⟩
  · rintro i s hi ⟨kH, k1, k4, wv, k3, ks, ko⟩
    have kt' := ht.pre kH
    have kk' := hk.pre kH
    have hroom := kt'.room
    simp only [go_sem, ↓reduceIte, Nat.reduceEqDiff, reduceCtorEq, Nat.reduceAdd, Nat.reduceLeDiff, Nat.reduceMul, k1, k3, k4, kt'.vc, kk'.vc, kt'.len]
    refine brT.intro (fun q1 => ?_) (fun q1 => ?_) <;> simp only [go_sem, ↓reduceIte, Nat.reduceEqDiff, reduceCtorEq, Nat.reduceAdd, Nat.reduceLeDiff, Nat.reduceMul, k1, k3, k4, kt'.vc, kk'.vc]
    · have hil : i < kt.length := by have := of_decide_eq_true q1; omega
      obtain ⟨id, p, o, ho, hr, hia⟩ := kt'.str (List.getElem?_eq_getElem hil)
      obtain ⟨v2, H2, d1, d2, d3, d4, d5, d6⟩ := Sl.oneWy (m := m) (kt[i], -1, -1) nilS ks nilS_d ko kH.length_le hw (begW_gdp hK i)
      unfold eWy at d1
      simp only [go_sem, ↓reduceIte, Nat.reduceEqDiff, reduceCtorEq, Nat.reduceAdd, Nat.reduceLeDiff, Nat.reduceMul, k1, k3, k4, kt'.vc, kk'.vc, hia, ho, hr]
      rw [d1]
      rotate_left
      · rfl
      · rfl
      · rfl
      simp only [go_sem, ↓reduceIte, Nat.reduceEqDiff, reduceCtorEq, Nat.reduceAdd, Nat.reduceLeDiff, Nat.reduceMul, k1, k3, k4, wrap64 ((i : Int) + 1) (by omega) (by omega)]
      exact ⟨hil, d6 H (Nat.le_refl _) kH, by simp, v2, rfl, by rw [begW_succ hil]; exact d3, d4⟩
    · have : i = kt.length := by have := of_decide_eq_false q1; omega
      subst this
      rw [List.take_length] at ks
      exact ⟨kH, wv, rfl, ks, ko⟩
  · rintro s ⟨kH, k1, wv, k3, ks, ko⟩
    simp only [go_sem, ↓reduceIte, Nat.reduceEqDiff, reduceCtorEq, Nat.reduceAdd, Nat.reduceLeDiff, Nat.reduceMul, k1, k3]
    refine go_for capW (fun j s => H <+: s.H ∧ s.ρ 1 = .bx 0 [vt, vk] ∧ ∃ wv l, s.ρ 3 = .val wv ∧ SlWy s.H wv l ∧ OwnS H.length wv ∧ GdW kt l ∧ j ≤ l.length ∧ roundW kk capW (capW - j) l = T) (fun _ => False) ?_ ?_ ?_
    · exact ⟨kH, by simp [k1], wv, begW kt, by simp [k3], ks, ko, begW_gd hK, Nat.zero_le _, hT⟩
    · rintro j s hj ⟨kH, k1, wv, l, k3, ks, ko, hg, hjl, hround⟩
      simp only [go_sem, ↓reduceIte, Nat.reduceEqDiff, reduceCtorEq, Nat.reduceAdd, Nat.reduceLeDiff, Nat.reduceMul, k1, k3, ks.len]
      refine go_for capW (fun i s => H <+: s.H ∧ s.ρ 1 = .bx 0 [vt, vk] ∧ s.ρ 5 = .val (.int .i64 l.length) ∧ s.ρ 6 = .val (.int .i64 i) ∧ ∃ wv u, s.ρ 3 = .val wv ∧ SlWy s.H wv u ∧ OwnS H.length wv ∧ GdW kt u ∧ passW kk (capW - i) i u = passW kk capW 0 l)
        (fun s => H <+: s.H ∧ s.ρ 1 = .bx 0 [vt, vk] ∧ s.ρ 5 = .val (.int .i64 l.length) ∧ ∃ wv, s.ρ 3 = .val wv ∧ SlWy s.H wv (passW kk capW 0 l) ∧ OwnS H.length wv) ?_ ?_ ?_
      · exact ⟨kH, by simp [upd, k1], by simp [upd], by simp [upd], wv, l, by simp [upd, k3], ks, ko, hg, by simp⟩
      · rintro i s hi ⟨kH, k1, k5, k6, wv, u, k3, ks, ko, hgu, hpass⟩
        have cu := hgu.cap hK
        have kt' := ht.pre kH
        have kk' := hk.pre kH
        simp only [go_sem, ↓reduceIte, Nat.reduceEqDiff, reduceCtorEq, Nat.reduceAdd, Nat.reduceLeDiff, Nat.reduceMul, k1, k3, k5, k6, ks.len]
        refine brT.intro (fun q1 => ?_) (fun q1 => ?_) <;> simp only [go_sem, ↓reduceIte, Nat.reduceEqDiff, reduceCtorEq, Nat.reduceAdd, Nat.reduceLeDiff, Nat.reduceMul, k1, k3, k5, k6, kt'.vc, kk'.vc]
        · have hiu : i < u.length := by have := of_decide_eq_true q1; omega
          refine callT_now (f80 (H0 := H) ht hk ks ko kH hiu hgu hK hw) fun r1 H1 ⟨s1, o1, p1⟩ => ?_
          simp only [go_sem, ↓reduceIte, Nat.reduceEqDiff, reduceCtorEq, Nat.reduceAdd, Nat.reduceLeDiff, Nat.reduceMul, k1, k3, k5, k6, wrap64 ((i : Int) + 1) (by omega) (by omega)]
          refine ⟨by omega, p1, by simp, r1, _, rfl, s1, o1, lookW_gd hgu, ?_⟩
          · rw [← hpass, show capW - i = (capW - (i + 1)) + 1 by omega, passW_step hiu]
        · have hiu : ¬ i < u.length := by have := of_decide_eq_false q1; omega
          rw [passW_stop hiu] at hpass
          subst hpass
          exact ⟨kH, wv, rfl, ks, ko⟩
      · rintro s ⟨kH, k1, k5, wv, k3, ks, ko⟩
        simp only [go_sem, ↓reduceIte, Nat.reduceEqDiff, reduceCtorEq, Nat.reduceAdd, Nat.reduceLeDiff, Nat.reduceMul, k1, k3, k5, ks.len]
        refine brT.intro (fun q1 => ?_) (fun q1 => ?_) <;> simp only [go_sem, ↓reduceIte, Nat.reduceEqDiff, reduceCtorEq, Nat.reduceAdd, Nat.reduceLeDiff, Nat.reduceMul, k1, k3, k5]
        · have q1' : (passW kk capW 0 l).length = l.length := by have := of_decide_eq_true q1; omega
          rw [roundW_stop q1'] at hround
          subst hround
          exact ⟨kH, ks, ko⟩
        · have q1' : ¬ (passW kk capW 0 l).length = l.length := by have := of_decide_eq_false q1; omega
          obtain ⟨b1, b2, b3⟩ := round_on hK hg hjl q1'
          exact ⟨b3, kH, wv, _, rfl, ks, ko, (passW_gd hg).1, b2, by rw [← b1]; exact hround⟩
    · intro s h
      exact h.elim

theorem f44 {m : Md} {H : Hp} {vt vk : Value} {kt : List ByteArray} {kk : List Int} (ht : SlS H vt kt) (hk : SlI H vk kk) (hz : ∀ x ∈ kt, x.size ≤ 4611686018427387904) (hw : Wr m H) :
    Fun EE m 44 [.agg #[vt, vk]] H fun r H' => FreshS eWy 3 H r H' (stepsW kt kk) := by
  refine fun_f rfl rfl k44 (by simp [c44]) ?_
  have hc := capP
  have p0 : H <+: H ++ [[]] := List.prefix_append _ _
  have s0 : SlWy (H ++ [[]]) (.slice (some ⟨H.length, 0, some 3⟩) 0 (0 * 3)) [] := own_newWy
  have o0 : OwnS H.length (.slice (some ⟨H.length, 0, some 3⟩) 0 (0 * 3)) := .inr ⟨_, _, _, _, rfl, Nat.le_refl _⟩
  generalize hwv : Value.slice (some ⟨H.length, 0, some 3⟩) 0 (0 * 3) = wv0 at s0 o0
  have t0 := ht.pre p0
  have k0 := hk.pre p0
  have hkt := ht.room
  have a77 := fun {m draw t d ts Q} => callT_at (m := m) (draw := draw) (s := t) (d := d) (ts := ts) (Q := Q) (f77 t0 k0 hz)
  simp only [go_sem, ↓reduceIte, Nat.reduceEqDiff, reduceCtorEq, Nat.reduceAdd, Nat.reduceLeDiff, Nat.reduceMul, c44, fillL, hwv, t0.vc, k0.vc, a77, hw.pre p0]
  cases hkn : knB kt kk with
  | false =>
    simp only [go_sem, ↓reduceIte, Nat.reduceEqDiff, reduceCtorEq, Nat.reduceAdd, Nat.reduceLeDiff, Nat.reduceMul]
    rw [stepsW_no hkn]
    exact ⟨p0, s0, o0⟩
  | true =>
  have hK := kn_t.1 hkn
  rw [stepsW_yes hkn]
  generalize hT : roundW kk capW capW (begW kt) = T
  simp only [go_sem, ↓reduceIte, Nat.reduceEqDiff, reduceCtorEq, Nat.reduceAdd, Nat.reduceLeDiff, Nat.reduceMul, t0.vc, k0.vc, t0.len]
  refine go_for kt.length (fun i s => H <+: s.H ∧ s.ρ 1 = .bx 0 [vt, vk] ∧ s.ρ 22 = .val vt ∧ s.ρ 23 = .val (.int .i64 kt.length) ∧ s.ρ 24 = .val (.int .i64 i) ∧ ∃ wv, s.ρ 3 = .val wv ∧ SlWy s.H wv (begW (kt.take i)) ∧ OwnS H.length wv)
    (fun s => H <+: s.H ∧ s.ρ 1 = .bx 0 [vt, vk] ∧ ∃ wv, s.ρ 3 = .val wv ∧ SlWy s.H wv (begW kt) ∧ OwnS H.length wv) ?_ ?_ ?_
  · exact ⟨p0, by simp [upd, ini], by simp [upd], by simp [upd], by simp [upd], wv0, by simp [upd], s0, o0⟩
  · rintro i s hi ⟨kH, k1, k22, k23, k24, wv, k3, ks, ko⟩
    have kt' := ht.pre kH
    simp only [go_sem, ↓reduceIte, Nat.reduceEqDiff, reduceCtorEq, Nat.reduceAdd, Nat.reduceLeDiff, Nat.reduceMul, k1, k3, k22, k23, k24]
    refine brT.intro (fun q1 => ?_) (fun q1 => ?_) <;> simp only [go_sem, ↓reduceIte, Nat.reduceEqDiff, reduceCtorEq, Nat.reduceAdd, Nat.reduceLeDiff, Nat.reduceMul, k1, k3, k22, k23, k24]
    · have hil : i < kt.length := by have := of_decide_eq_true q1; omega
      obtain ⟨id, p, o, ho, hr, hia⟩ := kt'.str (List.getElem?_eq_getElem hil)
      obtain ⟨v2, H2, d1, d2, d3, d4, d5, d6⟩ := Sl.oneWy (m := m) (kt[i], -1, -1) nilS ks nilS_d ko kH.length_le hw (begW_gdp hK i)
      unfold eWy at d1
      simp only [go_sem, ↓reduceIte, Nat.reduceEqDiff, reduceCtorEq, Nat.reduceAdd, Nat.reduceLeDiff, Nat.reduceMul, k1, k3, k22, k23, k24, hia, ho, hr]
      rw [d1]
      rotate_left
      · rfl
      · rfl
      · rfl
      simp only [go_sem, ↓reduceIte, Nat.reduceEqDiff, reduceCtorEq, Nat.reduceAdd, Nat.reduceLeDiff, Nat.reduceMul, k1, k3, k22, k23, k24, wrap64 ((i : Int) + 1) (by omega) (by omega)]
      exact ⟨hil, d6 H (Nat.le_refl _) kH, by simp, v2, rfl, by rw [begW_succ hil]; exact d3, d4⟩
    · have : i = kt.length := by have := of_decide_eq_false q1; omega
      subst this
      rw [List.take_length] at ks
      exact ⟨kH, wv, rfl, ks, ko⟩
  · rintro s ⟨kH, k1, wv, k3, ks, ko⟩
    simp only [go_sem, ↓reduceIte, Nat.reduceEqDiff, reduceCtorEq, Nat.reduceAdd, Nat.reduceLeDiff, Nat.reduceMul, k1, k3]
    refine go_for (capW + 1) (fun j s => H <+: s.H ∧ s.ρ 1 = .bx 0 [vt, vk] ∧ ∃ wv l, ∃ z : Int, s.ρ 3 = .val wv ∧ s.ρ 6 = .val (.int .i64 z) ∧ SlWy s.H wv l ∧ OwnS H.length wv ∧ GdW kt l ∧ (z < l.length → j ≤ l.length ∧ roundW kk capW (capW - j) l = T) ∧ (¬ z < l.length → l = T))
      (fun s => H <+: s.H ∧ ∃ wv, s.ρ 3 = .val wv ∧ SlWy s.H wv T ∧ OwnS H.length wv) ?_ ?_ ?_
    · exact ⟨kH, by simp [upd, k1], wv, begW kt, -1, by simp [upd, k3], by simp [upd], ks, ko, begW_gd hK, fun _ => ⟨Nat.zero_le _, hT⟩, fun h => by omega⟩
    · rintro j s hj ⟨kH, k1, wv, l, z, k3, k6, ks, ko, hg, hround, hend⟩
      have cl := hg.cap hK
      simp only [go_sem, ↓reduceIte, Nat.reduceEqDiff, reduceCtorEq, Nat.reduceAdd, Nat.reduceLeDiff, Nat.reduceMul, k1, k3, k6, ks.len]
      refine brT.intro (fun q1 => ?_) (fun q1 => ?_) <;> simp only [go_sem, ↓reduceIte, Nat.reduceEqDiff, reduceCtorEq, Nat.reduceAdd, Nat.reduceLeDiff, Nat.reduceMul, k1, k3, k6, ks.len]
      rotate_left
      · rw [hend (of_decide_eq_false q1)] at ks
        exact ⟨kH, wv, rfl, ks, ko⟩
      obtain ⟨hjl, hround⟩ := hround (of_decide_eq_true q1)
      refine go_for capW (fun i s => H <+: s.H ∧ s.ρ 1 = .bx 0 [vt, vk] ∧ s.ρ 6 = .val (.int .i64 l.length) ∧ s.ρ 7 = .val (.int .i64 i) ∧ ∃ wv u, s.ρ 3 = .val wv ∧ SlWy s.H wv u ∧ OwnS H.length wv ∧ GdW kt u ∧ passW kk (capW - i) i u = passW kk capW 0 l)
        (fun s => H <+: s.H ∧ s.ρ 1 = .bx 0 [vt, vk] ∧ s.ρ 6 = .val (.int .i64 l.length) ∧ ∃ wv, s.ρ 3 = .val wv ∧ SlWy s.H wv (passW kk capW 0 l) ∧ OwnS H.length wv) ?_ ?_ ?_
      · exact ⟨kH, by simp [upd, k1], by simp [upd], by simp [upd], wv, l, by simp [upd, k3], ks, ko, hg, by simp⟩
      · rintro i s hi ⟨kH, k1, k6, k7, wv, u, k3, ks, ko, hgu, hpass⟩
        have cu := hgu.cap hK
        have kt' := ht.pre kH
        have kk' := hk.pre kH
        have kw := hw.pre kH
        simp only [go_sem, ↓reduceIte, Nat.reduceEqDiff, reduceCtorEq, Nat.reduceAdd, Nat.reduceLeDiff, Nat.reduceMul, k1, k3, k6, k7, ks.len]
        refine brT.intro (fun q1 => ?_) (fun q1 => ?_) <;> simp only [go_sem, ↓reduceIte, Nat.reduceEqDiff, reduceCtorEq, Nat.reduceAdd, Nat.reduceLeDiff, Nat.reduceMul, k1, k3, k6, k7]
        rotate_left
        · have hiu : ¬ i < u.length := by have := of_decide_eq_false q1; omega
          rw [passW_stop hiu] at hpass
          subst hpass
          exact ⟨kH, wv, rfl, ks, ko⟩
        have hiu : i < u.length := by have := of_decide_eq_true q1; omega
        have w1 := wrap64 ((i : Int) + 1) (by omega) (by omega)
        have hstep : passW kk (capW - (i + 1)) (i + 1) (lookW kk u i) = passW kk capW 0 l := by rw [← hpass, show capW - i = (capW - (i + 1)) + 1 by omega, passW_step hiu]
        have hgl := lookW_gd (kk := kk) (i := i) hgu
        obtain ⟨w, hwi⟩ : ∃ w, u[i]? = some w := ⟨_, List.getElem?_eq_getElem hiu⟩
        obtain ⟨id, p, o, hid, hr, hpp, hia⟩ := ks.elem hwi
        unfold En at hr
        have hgo : o[p]? = some (.string w.1) := by simpa [eWy] using getElem?_of_take hr (j := 0) (by omega)
        have hwg := hgu.2 w (List.mem_of_getElem? hwi)
        have hsz := hgu.size w (List.mem_of_getElem? hwi)
        have hps := look_parts hgu hwi
        rw [lookW_at hwi] at hstep hgl
        simp only [go_sem, ↓reduceIte, Nat.reduceEqDiff, reduceCtorEq, Nat.reduceAdd, Nat.reduceLeDiff, Nat.reduceMul, k1, k3, k6, k7, hia, hid, hgo]
        refine callT_to (fun m' h => f81 (H := s.H) hsz h) rfl kw fun r1 H1 ⟨wp, e1, p1, s1, o1⟩ => ?_
        subst e1
        have l1 := ks.pre p1
        have hd1 : ∀ j ∈ idsOf wp, j ∉ idsOf wv := fun j hj h => by
          have := ks.ids j h
          rcases o1 with rfl | ⟨id, e, ln, cap, rfl, hge⟩
          · simp [idsOf] at hj
          · simp [idsOf] at hj
            omega
        generalize hpq : (partsB w.1).getD [] = ps at *
        have gps : ∀ j, GdW kt (partsW i (ps.take j) u) := fun j => partsW_gd i hgu fun q hq => hps q (List.mem_of_mem_take hq)
        have cps := fun j => (gps j).cap hK
        simp only [go_sem, ↓reduceIte, Nat.reduceEqDiff, reduceCtorEq, Nat.reduceAdd, Nat.reduceLeDiff, Nat.reduceMul, k1, k3, k6, k7, List.getElem?_toArray, ofV, s1.len]
        refine go_for ps.length (fun j s => H <+: s.H ∧ s.ρ 1 = .bx 0 [vt, vk] ∧ s.ρ 6 = .val (.int .i64 l.length) ∧ s.ρ 7 = .val (.int .i64 i) ∧ s.ρ 55 = .val wp ∧ s.ρ 56 = .val (.int .i64 ps.length) ∧ s.ρ 57 = .val (.int .i64 j) ∧ SlS s.H wp ps ∧ ∃ wv, s.ρ 3 = .val wv ∧ SlWy s.H wv (partsW i (ps.take j) u) ∧ OwnS H.length wv ∧ ∀ j ∈ idsOf wp, j ∉ idsOf wv)
          (fun s => H <+: s.H ∧ s.ρ 1 = .bx 0 [vt, vk] ∧ s.ρ 6 = .val (.int .i64 l.length) ∧ s.ρ 7 = .val (.int .i64 i) ∧ ∃ wv, s.ρ 3 = .val wv ∧ SlWy s.H wv (partsW i ps u) ∧ OwnS H.length wv) ?_ ?_ ?_
        · exact ⟨kH.trans p1, by simp [upd, k1], by simp [upd, k6], by simp [upd, k7], by simp [upd], by simp [upd], by simp [upd], s1, wv, by simp [upd, k3], l1, ko, hd1⟩
        · rintro j s hj ⟨kH, k1, k6, k7, k55, k56, k57, kp, wv, k3, ks, ko, kd⟩
          have kw := hw.pre kH
          have hroom := kp.room
          simp only [go_sem, ↓reduceIte, Nat.reduceEqDiff, reduceCtorEq, Nat.reduceAdd, Nat.reduceLeDiff, Nat.reduceMul, k1, k3, k6, k7, k55, k56, k57]
          refine brT.intro (fun q1 => ?_) (fun q1 => ?_) <;> simp only [go_sem, ↓reduceIte, Nat.reduceEqDiff, reduceCtorEq, Nat.reduceAdd, Nat.reduceLeDiff, Nat.reduceMul, k1, k3, k6, k7, k55, k56, k57]
          · have hjl : j < ps.length := by have := of_decide_eq_true q1; omega
            obtain ⟨id, p, o, ho, hr, hia⟩ := kp.str (List.getElem?_eq_getElem hjl)
            have a82 := fun {m draw t d ts Q} => callT_at (m := m) (draw := draw) (s := t) (d := d) (ts := ts) (Q := Q) (f82 (t := ps[j]) ks)
            have w1 := wrap64 ((j : Int) + 1) (by omega) (by omega)
            have hs := partsW_succ (i := i) (l := u) hjl
            simp only [go_sem, ↓reduceIte, Nat.reduceEqDiff, reduceCtorEq, Nat.reduceAdd, Nat.reduceLeDiff, Nat.reduceMul, k1, k3, k6, k7, k55, k56, k57, hia, ho, hr, a82, kw]
            refine brT.intro (fun q2 => ?_) (fun q2 => ?_) <;> simp only [go_sem, ↓reduceIte, Nat.reduceEqDiff, reduceCtorEq, Nat.reduceAdd, Nat.reduceLeDiff, Nat.reduceMul, k1, k3, k6, k7, k55, k56, k57, w1]
            · obtain ⟨v2, H2, d1, d2, d3, d4, d5, d6⟩ := Sl.oneWy (m := m) (ps[j], (i : Int), -1) kp ks kd ko kH.length_le hw (cps j)
              unfold eWy at d1
              rw [d1]
              rotate_left
              · rfl
              · rfl
              · rfl
              simp only [go_sem, ↓reduceIte, Nat.reduceEqDiff, reduceCtorEq, Nat.reduceAdd, Nat.reduceLeDiff, Nat.reduceMul, k1, k3, k6, k7, k55, k56, k57, w1]
              refine ⟨hjl, d6 H (Nat.le_refl _) kH, by simp, d2, v2, rfl, ?_, d4, d5⟩
              rw [hs]
              unfold addW
              rw [if_pos (of_decide_eq_true q2)]
              exact d3
            · refine ⟨hjl, kH, by simp, kp, wv, rfl, ?_, ko, kd⟩
              rw [hs]
              unfold addW
              rw [if_neg (of_decide_eq_false q2)]
              exact ks
          · have : j = ps.length := by have := of_decide_eq_false q1; omega
            subst this
            rw [List.take_length] at ks
            exact ⟨kH, wv, rfl, ks, ko⟩
        · rintro s ⟨kH, k1, k6, k7, wv, k3, ks, ko⟩
          have kw := hw.pre kH
          have gL := gps ps.length
          rw [List.take_length] at gL
          have cL := gL.cap hK
          have kt' := ht.pre kH
          have kk' := hk.pre kH
          have hil2 : i < (partsW i ps u).length := Nat.lt_of_lt_of_le hiu (partsW_pre i ps u).length_le
          have hwi2 : (partsW i ps u)[i]? = some w := by
            obtain ⟨q, hq⟩ := partsW_pre i ps u
            rw [← hq, List.getElem?_append_left hiu]
            exact hwi
          obtain ⟨id, p, o, hid, hr, hpp, hia⟩ := ks.elem hwi2
          unfold En at hr
          have hgo : o[p]? = some (.string w.1) := by simpa [eWy] using getElem?_of_take hr (j := 0) (by omega)
          have a83 := fun {m draw t' d ts Q} => callT_at (m := m) (draw := draw) (s := t') (d := d) (ts := ts) (Q := Q) (f83 (H := s.H) hsz)
          unfold sealedV at a83
          simp only [go_sem, ↓reduceIte, Nat.reduceEqDiff, reduceCtorEq, Nat.reduceAdd, Nat.reduceLeDiff, Nat.reduceMul, k1, k3, k6, k7, hia, hid, hgo, a83, kw]
          unfold sealW at hstep hgl
          cases hB : isB w.1 115 with
          | false =>
            rw [if_neg (by rw [hB]; decide)] at hstep hgl
            have d0 : (false = true) = False := by simp
            simp only [go_sem, ↓reduceIte, Nat.reduceEqDiff, reduceCtorEq, Nat.reduceAdd, Nat.reduceLeDiff, Nat.reduceMul, k1, k3, k6, k7, d0, List.getElem?_toArray, ofV, w1]
            exact ⟨by omega, kH, by simp, wv, _, rfl, ks, ko, hgl, hstep⟩
          | true =>
            rw [if_pos hB] at hstep hgl
            have d0 : (true = true) = True := by simp
            have a82 := fun {m draw t' d ts Q} => callT_at (m := m) (draw := draw) (s := t') (d := d) (ts := ts) (Q := Q) (f82 (t := inS w.1) ks)
            have a82 : ∀ {m : Md} {draw : Bool} {t : St} {d' : Option Nat} {ts : List Tk} {Q : Ex → St → Prop}, t.H = s.H → Wr m s.H → callT EE m draw 82 (some [wv, .string (rest w.1 (1 + (rdV (rest w.1 1)).2))]) t d' ts Q = go EE m ts { t with ρ := upd t.ρ d' (.val (.int .i64 (atW (partsW i ps u) (inS w.1)))) } Q := a82
            have a84 := fun {m draw t' d ts Q} => callT_at (m := m) (draw := draw) (s := t') (d := d) (ts := ts) (Q := Q) (f84 (n := lkS w.1) kt' kk' ks)
            have a84 : ∀ {m : Md} {draw : Bool} {t : St} {d' : Option Nat} {ts : List Tk} {Q : Ex → St → Prop}, t.H = s.H → Wr m s.H → callT EE m draw 84 (some [.agg #[vt, vk], wv, .int .i64 (((rdV (rest w.1 1)).1 : Nat) : Int)]) t d' ts Q = go EE m ts { t with ρ := upd t.ρ d' (.val (.int .i64 (wI (-1) (withW kk (partsW i ps u) (lkS w.1))))) } Q := a84
            simp only [go_sem, ↓reduceIte, Nat.reduceEqDiff, reduceCtorEq, Nat.reduceAdd, Nat.reduceLeDiff, Nat.reduceMul, k1, k3, k6, k7, d0, List.getElem?_toArray, ofV, a82, kw, w1]
            refine brT.intro (fun q2 => ?_) (fun q2 => ?_) <;> simp only [go_sem, ↓reduceIte, Nat.reduceEqDiff, reduceCtorEq, Nat.reduceAdd, Nat.reduceLeDiff, Nat.reduceMul, k1, k3, k6, k7, w1, kt'.vc, kk'.vc]
            · have q2' := of_decide_eq_true q2
              rw [if_neg (by omega)] at hstep hgl
              exact ⟨by omega, kH, by simp, wv, _, rfl, ks, ko, hgl, hstep⟩
            have q2' := of_decide_eq_false q2
            rw [if_pos (by omega)] at hstep hgl
            simp only [go_sem, ↓reduceIte, Nat.reduceEqDiff, reduceCtorEq, Nat.reduceAdd, Nat.reduceLeDiff, Nat.reduceMul, k1, k3, k6, k7, a84, kw]
            have hge := atW_ge (partsW i ps u) (keyB (lkS w.1))
            cases hwq : withW kk (partsW i ps u) (lkS w.1) with
            | none =>
              rw [hwq] at hstep hgl
              have d3 : decide (wI (-1) none = -1) = true := by decide
              simp only [go_sem, ↓reduceIte, Nat.reduceEqDiff, reduceCtorEq, Nat.reduceAdd, Nat.reduceLeDiff, Nat.reduceMul, k1, k3, k6, k7, d3, w1]
              exact ⟨by omega, kH, by simp, wv, _, rfl, ks, ko, hgl, hstep⟩
            | some n =>
              rw [hwq] at hstep hgl
              have hn : n ≠ -1 := by
                unfold withW at hwq
                split at hwq
                · cases hwq; decide
                · split at hwq
                  · cases hwq
                  · cases hwq; omega
              have d3 : decide (wI (-1) (some n) = -1) = false := by
                rw [decide_eq_false_iff_not]
                exact hn
              simp only [go_sem, ↓reduceIte, Nat.reduceEqDiff, reduceCtorEq, Nat.reduceAdd, Nat.reduceLeDiff, Nat.reduceMul, k1, k3, k6, k7, d3, w1]
              obtain ⟨v2, H2, d1, d2, d3, d4, d5, d6⟩ := Sl.oneWy (m := m) (inS w.1, (i : Int), n) nilS ks nilS_d ko kH.length_le hw cL
              unfold eWy at d1
              rw [d1]
              rotate_left
              · rfl
              · rfl
              · rfl
              simp only [go_sem, ↓reduceIte, Nat.reduceEqDiff, reduceCtorEq, Nat.reduceAdd, Nat.reduceLeDiff, Nat.reduceMul, k1, k3, k6, k7, w1]
              exact ⟨by omega, d6 H (Nat.le_refl _) kH, by simp, v2, _, rfl, d3, d4, hgl, hstep⟩
      · rintro s ⟨kH, k1, k6, wv, k3, ks, ko⟩
        simp only [go_sem, ↓reduceIte, Nat.reduceEqDiff, reduceCtorEq, Nat.reduceAdd, Nat.reduceLeDiff, Nat.reduceMul, k1, k3, k6]
        have hpg := passW_gd (kk := kk) (f := capW) (i := 0) hg
        by_cases q1' : (passW kk capW 0 l).length = l.length
        · rw [roundW_stop q1'] at hround
          exact ⟨by omega, kH, wv, _, _, rfl, rfl, ks, ko, hpg.1, fun h => by omega, fun _ => hround⟩
        · obtain ⟨b1, b2, b3⟩ := round_on hK hg hjl q1'
          have := hpg.2.length_le
          exact ⟨by omega, kH, wv, _, _, rfl, rfl, ks, ko, hpg.1, fun _ => ⟨b2, by rw [← b1]; exact hround⟩, fun h => by omega⟩
    · rintro s ⟨kH, wv, k3, ks, ko⟩
      simp only [go_sem, ↓reduceIte, Nat.reduceEqDiff, reduceCtorEq, Nat.reduceAdd, Nat.reduceLeDiff, Nat.reduceMul, k3]
      exact ⟨kH, ks, ko⟩
end Go.Proofs.Ytpdkgbamakileaa.Ev

/- Marks on what is known and on steps; the law Steps. -/
namespace Go.Proofs.Ytpdkgbamakileaa.Ev
set_option linter.all false
open Go
set_option maxRecDepth 4000

theorem roundW_gd {kt : List ByteArray} {kk : List Int} {B : Nat} : ∀ {f : Nat} {l : List Wy}, GdW kt l → GdW kt (roundW kk B f l)
  | 0, l, h => by
    unfold roundW
    split <;> exact (passW_gd h).1
  | f + 1, l, h => by
    by_cases e : (passW kk B 0 l).length = l.length
    · rw [roundW_stop e]
      exact (passW_gd h).1
    · rw [roundW_step e]
      exact roundW_gd (passW_gd h).1
theorem stepsW_len (kt : List ByteArray) (kk : List Int) : (stepsW kt kk).length ≤ capW := by
  cases h : knB kt kk with
  | false => rw [stepsW_no h]; exact Nat.zero_le _
  | true =>
    rw [stepsW_yes h]
    exact (roundW_gd (begW_gd (kn_t.1 h))).cap (kn_t.1 h)

end Go.Proofs.Ytpdkgbamakileaa.Ev

/- The law Steps. -/
namespace Go.Proofs.Ytpdkgbamakileaa.Ev
set_option linter.all false
open Go
set_option maxRecDepth 4000

end Go.Proofs.Ytpdkgbamakileaa.Ev

/- What is seen of what is known; steps show it: plain. -/
namespace Go.Proofs.Ytpdkgbamakileaa.Ev
set_option linter.all false
open Go
set_option maxRecDepth 4000

/-- Known, a part of what is seen, or within a seal whose key is known or seen. -/
inductive Seen (kt : List ByteArray) (kk : List Int) : ByteArray → Prop
  | known {t : ByteArray} : t ∈ kt → Seen kt kk t
  | part {t p : ByteArray} : Seen kt kk t → p ∈ (partsB t).getD [] → Seen kt kk p
  | opened {t : ByteArray} : Seen kt kk t → isB t 115 = true → lkS t ∈ kk → Seen kt kk (inS t)
  | shown {t : ByteArray} : Seen kt kk t → isB t 115 = true → Seen kt kk (keyB (lkS t)) → Seen kt kk (inS t)

section
variable {kt : List ByteArray} {kk : List Int}
theorem preW_get {l l' : List Wy} (h : l <+: l') {i : Nat} (hi : i < l.length) : l'[i]? = l[i]? := by
  obtain ⟨k, rfl⟩ := h
  exact List.getElem?_append_left hi
def RtW (kt : List ByteArray) (kk : List Int) (l : List Wy) : Prop := (∀ i w, l[i]? = some w → WyOk kt kk l i w) ∧ ∀ w ∈ l, Seen kt kk w.1
theorem wy_ext {l l' : List Wy} {i : Nat} {w : Wy} (h : WyOk kt kk l i w) (hp : l <+: l') (hi : i ≤ l.length) : WyOk kt kk l' i w := by
  have get : ∀ {n : Int}, 0 ≤ n → n < i → l'[n.toNat]? = l[n.toNat]? := fun {n} h0 h1 => preW_get hp (by omega)
  rcases h with h | ⟨h0, h1, h2⟩
  · exact .inl h
  · refine .inr ⟨h0, h1, fun u hu => ?_⟩
    rw [get h0 h1] at hu
    rcases h2 u hu with h3 | ⟨h3, h4, h5⟩
    · exact .inl h3
    · refine .inr ⟨h3, h4, ?_⟩
      rcases h5 with h5 | ⟨h5, h6, h7⟩
      · exact .inl h5
      · exact .inr ⟨h5, h6, fun x hx => h7 x (by rw [get h5 h6] at hx; exact hx)⟩
theorem rt_add {l : List Wy} {w : Wy} (h : RtW kt kk l) (h1 : WyOk kt kk l l.length w) (h2 : Seen kt kk w.1) : RtW kt kk (l ++ [w]) := by
  refine ⟨fun i x hx => ?_, fun x hx => ?_⟩
  · by_cases hi : i < l.length
    · rw [List.getElem?_append_left hi] at hx
      exact wy_ext (h.1 i x hx) (List.prefix_append _ _) (by omega)
    · have hil := (List.getElem?_eq_some_iff.1 hx).1
      rw [List.length_append, List.length_singleton] at hil
      have : i = l.length := by omega
      subst this
      rw [List.getElem?_append_right (Nat.le_refl _), Nat.sub_self] at hx
      cases hx
      exact wy_ext h1 (List.prefix_append _ _) (Nat.le_refl _)
  · rcases List.mem_append.1 hx with hx | hx
    · exact h.2 x hx
    · rw [List.mem_singleton] at hx
      subst hx
      exact h2
theorem addW_in (w : Wy) (l : List Wy) : w.1 ∈ tms (addW w l) := by
  unfold addW
  by_cases h : atW l w.1 < 0
  · rw [if_pos h, tms_app]
    simp [tms]
  · rw [if_neg h]
    exact Classical.byContradiction fun hn => h (atW_neg.2 hn)
theorem tms_pre {l l' : List Wy} (h : l <+: l') {t : ByteArray} (ht : t ∈ tms l) : t ∈ tms l' := by
  obtain ⟨w, hw, e⟩ := List.mem_map.1 ht
  exact List.mem_map.2 ⟨w, h.subset hw, e⟩
theorem partsW_in (i : Nat) : ∀ (ps : List ByteArray) (l : List Wy), ∀ p ∈ ps, p ∈ tms (partsW i ps l)
  | [], _, p, h => by cases h
  | q :: ps, l, p, h => by
    rcases List.mem_cons.1 h with rfl | h
    · exact tms_pre (partsW_pre i ps (addW (p, (i : Int), -1) l)) (addW_in (p, (i : Int), -1) l)
    · exact partsW_in i ps (addW (q, (i : Int), -1) l) p h
theorem partsW_rt {i : Nat} {u : Wy} : ∀ {ps : List ByteArray} {l : List Wy}, RtW kt kk l → l[i]? = some u → (∀ p ∈ ps, p ∈ (partsB u.1).getD []) → RtW kt kk (partsW i ps l)
  | [], _, h, _, _ => h
  | p :: ps, l, h, hu, hp => by
    have hpp := hp p (by simp)
    have hil := (List.getElem?_eq_some_iff.1 hu).1
    have h108 : isB u.1 108 = true := by
      cases hb : isB u.1 108 with
      | true => rfl
      | false => rw [partsB_no hb] at hpp; simp at hpp
    have h2 : RtW kt kk (addW (p, (i : Int), -1) l) := by
      unfold addW
      split
      · refine rt_add h (.inr ⟨by simp only; omega, by simp only; omega, fun x hx => ?_⟩) (.part (h.2 u (List.mem_of_getElem? hu)) hpp)
        simp only [Int.toNat_natCast] at hx
        rw [hu] at hx
        cases hx
        exact .inl ⟨h108, rfl, hpp⟩
      · exact h
    exact partsW_rt (l := addW (p, (i : Int), -1) l) h2 (by rw [preW_get (addW_pre _ _) hil]; exact hu) fun q hq => hp q (List.mem_cons_of_mem _ hq)
theorem atW_key {l : List Wy} {t : ByteArray} (h : ¬ atW l t < 0) : ∃ x, l[(atW l t).toNat]? = some x ∧ x.1 = t := by
  have hi : idxW l t < l.length := by
    unfold atW at h
    split at h
    · assumption
    · omega
  have : atW l t = (idxW l t : Int) := by unfold atW; rw [if_pos hi]
  rw [this, Int.toNat_natCast]
  exact ⟨_, List.getElem?_eq_getElem hi, idxW_at hi⟩
theorem sealW_rt {i : Nat} {u : Wy} {l : List Wy} (h : RtW kt kk l) (hu : l[i]? = some u) : RtW kt kk (sealW kk i u.1 l) := by
  have hil := (List.getElem?_eq_some_iff.1 hu).1
  have hs := h.2 u (List.mem_of_getElem? hu)
  unfold sealW
  cases hb : isB u.1 115 with
  | false => rw [if_neg (by decide)]; exact h
  | true =>
    rw [if_pos rfl]
    split
    · split
      · rename_i n hn
        have key : ((n = -2 ∧ lkS u.1 ∈ kk) ∨ (0 ≤ n ∧ n < l.length ∧ ∃ x, l[n.toNat]? = some x ∧ x.1 = keyB (lkS u.1))) := by
          unfold withW at hn
          split at hn
          · rename_i hk
            cases hn
            exact .inl ⟨rfl, hk⟩
          · split at hn
            · cases hn
            · rename_i hk
              cases hn
              have := atW_ge l (keyB (lkS u.1))
              exact .inr ⟨by omega, this.2, atW_key hk⟩
        refine rt_add h (.inr ⟨by simp only; omega, by simp only; omega, fun x hx => ?_⟩) ?_
        · simp only [Int.toNat_natCast] at hx
          rw [hu] at hx
          cases hx
          refine .inr ⟨hb, rfl, ?_⟩
          rcases key with ⟨rfl, hk⟩ | ⟨k0, k1, y, hy, ey⟩
          · exact .inl ⟨rfl, hk⟩
          · exact .inr ⟨k0, k1, fun x hx => by
              simp only at hx
              rw [hy] at hx
              cases hx
              exact ey⟩
        · rcases key with ⟨rfl, hk⟩ | ⟨k0, k1, y, hy, ey⟩
          · exact .opened hs hb hk
          · refine .shown hs hb ?_
            rw [← ey]
            exact h.2 y (List.mem_of_getElem? hy)
      · exact h
    · exact h
theorem lookW_rt {i : Nat} {l : List Wy} (h : RtW kt kk l) : RtW kt kk (lookW kk l i) := by
  unfold lookW
  split
  · rename_i w hi
    have hil := (List.getElem?_eq_some_iff.1 hi).1
    exact sealW_rt (partsW_rt h hi fun p hp => hp) (by rw [preW_get (partsW_pre _ _ _) hil]; exact hi)
  · exact h
theorem passW_rt : ∀ {f i : Nat} {l : List Wy}, RtW kt kk l → RtW kt kk (passW kk f i l)
  | 0, i, l, h => by
    unfold passW
    split <;> exact h
  | f + 1, i, l, h => by
    by_cases hi : i < l.length
    · rw [passW_step hi]
      exact passW_rt (lookW_rt h)
    · rw [passW_stop hi]
      exact h
theorem roundW_rt {B : Nat} : ∀ {f : Nat} {l : List Wy}, RtW kt kk l → RtW kt kk (roundW kk B f l)
  | 0, l, h => by
    unfold roundW
    split <;> exact passW_rt h
  | f + 1, l, h => by
    by_cases he : (passW kk B 0 l).length = l.length
    · rw [roundW_stop he]
      exact passW_rt h
    · rw [roundW_step he]
      exact roundW_rt (passW_rt h)
theorem begW_rt : RtW kt kk (begW kt) := by
  refine ⟨fun i w hw => ?_, fun w hw => ?_⟩
  · obtain ⟨t, ht, rfl⟩ := List.mem_map.1 (List.mem_of_getElem? hw)
    exact .inl ⟨rfl, rfl, ht⟩
  · obtain ⟨t, ht, rfl⟩ := List.mem_map.1 hw
    exact .known ht
theorem pre_len {l l' : List Wy} (h : l <+: l') (he : l'.length ≤ l.length) : l' = l := (h.eq_of_length_le he).symm
theorem pass_fix : ∀ {f i : Nat} {l : List Wy}, GdW kt l → (passW kk f i l).length = l.length → l.length ≤ i + f → ∀ j, i ≤ j → j < l.length → lookW kk l j = l
  | 0, i, l, hg, he, hf, j, h1, h2 => by omega
  | f + 1, i, l, hg, he, hf, j, h1, h2 => by
    have hi : i < l.length := by omega
    rw [passW_step hi] at he
    have hp := (passW_gd (kk := kk) (f := f) (i := i + 1) (lookW_gd (kk := kk) (i := i) hg)).2.length_le
    have e : lookW kk l i = l := pre_len (lookW_pre kk l i) (by omega)
    rw [e] at he
    by_cases hj : j = i
    · subst hj; exact e
    · exact pass_fix hg he (by omega) j (by omega) h2
theorem round_fix (hK : KnOk kt kk) : ∀ {f : Nat} {l : List Wy}, GdW kt l → capW ≤ l.length + f → (l <+: roundW kk capW f l) ∧ (passW kk capW 0 (roundW kk capW f l)).length = (roundW kk capW f l).length
  | f, l, hg, hf => by
    by_cases he : (passW kk capW 0 l).length = l.length
    · have e := pre_len (passW_gd (kk := kk) (f := capW) (i := 0) hg).2 (by omega)
      rw [roundW_stop he, e]
      exact ⟨List.prefix_refl _, by rw [e]⟩
    · have hp := passW_gd (kk := kk) (f := capW) (i := 0) hg
      have h1 := hp.2.length_le
      have h2 := hp.1.cap hK
      cases f with
      | zero => omega
      | succ f =>
        rw [roundW_step he]
        have := round_fix hK (f := f) hp.1 (by omega)
        exact ⟨hp.2.trans this.1, this.2⟩
theorem fix_seen {l : List Wy} (hg : GdW kt l) (hf : ∀ j, j < l.length → lookW kk l j = l) (hk : ∀ t ∈ kt, t ∈ tms l) {t : ByteArray} (h : Seen kt kk t) : t ∈ tms l := by
  have at_ : ∀ {t : ByteArray}, t ∈ tms l → ∃ (i : Nat) (w : Wy), l[i]? = some w ∧ w.1 = t ∧ sealW kk i t l = l ∧ partsW i ((partsB t).getD []) l = l := fun {t} ht => by
    obtain ⟨w, hw, rfl⟩ := List.mem_map.1 ht
    obtain ⟨i, hi⟩ := List.getElem?_of_mem hw
    have hl := hf i (List.getElem?_eq_some_iff.1 hi).1
    rw [lookW_at hi] at hl
    have p1 := partsW_pre i ((partsB w.1).getD []) l
    have p2 := sealW_pre kk i w.1 (partsW i ((partsB w.1).getD []) l)
    rw [hl] at p2
    have e := pre_len p1 p2.length_le
    rw [e] at hl
    exact ⟨i, w, hi, rfl, hl, e⟩
  have op : ∀ {t : ByteArray}, t ∈ tms l → isB t 115 = true → (∃ n, withW kk l (lkS t) = some n) → inS t ∈ tms l := fun {t} ht hb ⟨n, hn⟩ => by
    obtain ⟨i, w, hi, ew, hs, _⟩ := at_ ht
    unfold sealW at hs
    rw [if_pos hb] at hs
    by_cases hm : atW l (inS t) < 0
    · rw [if_pos hm, hn] at hs
      have := congrArg List.length hs
      simp at this
    · exact Classical.byContradiction fun hne => hm (atW_neg.2 hne)
  induction h with
  | known ht => exact hk _ ht
  | @part t p _ hp ih =>
    obtain ⟨i, w, hi, ew, _, hps⟩ := at_ ih
    have := partsW_in i ((partsB t).getD []) l p hp
    rw [hps] at this
    exact this
  | @opened t _ hb hkk ih => exact op ih hb ⟨-2, by unfold withW; rw [if_pos hkk]⟩
  | @shown t _ hb _ ih ih2 =>
    refine op ih hb ?_
    unfold withW
    by_cases hkk : lkS t ∈ kk
    · exact ⟨_, if_pos hkk⟩
    · rw [if_neg hkk, if_neg (fun hn => atW_neg.1 hn ih2)]
      exact ⟨_, rfl⟩
theorem begW_tms : tms (begW kt) = kt := by
  unfold tms begW
  rw [List.map_map]
  exact List.map_id kt
theorem steps_gd (h : knB kt kk = true) : GdW kt (stepsW kt kk) := by
  rw [stepsW_yes h]
  exact roundW_gd (begW_gd (kn_t.1 h))
theorem steps_rt (h : knB kt kk = true) : RtW kt kk (stepsW kt kk) := by
  rw [stepsW_yes h]
  exact roundW_rt begW_rt
theorem steps_seen (h : knB kt kk = true) (t : ByteArray) : t ∈ tms (stepsW kt kk) ↔ Seen kt kk t := by
  constructor
  · intro ht
    obtain ⟨w, hw, rfl⟩ := List.mem_map.1 ht
    exact (steps_rt h).2 w hw
  · intro ht
    have hK := kn_t.1 h
    have hg := begW_gd hK
    obtain ⟨h1, h2⟩ := round_fix hK (f := capW) hg (by omega)
    have hgs := steps_gd h
    rw [stepsW_yes h] at hgs ⊢
    have hcap := hgs.cap hK
    refine fix_seen hgs (fun j hj => pass_fix hgs h2 (by omega) j (Nat.zero_le _) hj) (fun t ht => tms_pre h1 (by rw [begW_tms]; exact ht)) ht
theorem steps_ok (h : knB kt kk = true) : stB kt kk (stepsW kt kk) = true :=
  st_t.2 ⟨kn_t.1 h, fun i hi => wy_t.2 fun w hw => (steps_rt h).1 i w hw⟩
end
end Go.Proofs.Ytpdkgbamakileaa.Ev

/- A sealed log that is cut, turned round or read under another key: plain. -/
namespace Go.Proofs.Ytpdkgbamakileaa.Ev
set_option linter.all false
open Go
set_option maxRecDepth 4000

section
variable {k : Int} {l : List Ln} (h : AudOk k l) (hz : ∀ z ∈ l, z.2.2.size ≤ 562949953421311)
include h hz
end
end Go.Proofs.Ytpdkgbamakileaa.Ev

/- Draws of lines and of sealed logs. -/
namespace Go.Proofs.Ytpdkgbamakileaa.Ev
set_option linter.all false
open Go
set_option maxRecDepth 4000

theorem OwnS.mono {N N' : Nat} {v : Value} (h : OwnS N v) (hn : N' ≤ N) : OwnS N' v := by
  rcases h with h | ⟨id, e, ln, cap, h, hid⟩
  · exact .inl h
  · exact .inr ⟨id, e, ln, cap, h, by omega⟩
end Go.Proofs.Ytpdkgbamakileaa.Ev

/- The law Audit. -/
namespace Go.Proofs.Ytpdkgbamakileaa.Ev
set_option linter.all false
open Go
set_option maxRecDepth 4000

end Go.Proofs.Ytpdkgbamakileaa.Ev

/- Code of the program's functions, as the small machine has it: written by mkcode.py. -/
namespace Go.Proofs.Ytpdkgbamakileaa.Ev
set_option linter.all false
open Go
def c10 : CF := ⟨108, (.seq (.reg false [⟨(some 2), .none, (.mov (.c (.bool false))), 0, []⟩]) (.seq (.seq (.reg false [⟨(some 14), .none, (.mov (.t 0)), 0, []⟩, ⟨(some 15), .none, (.call 31 [(.t 14)]), 1, []⟩]) (.cond (.t 15) (.seq (.reg false [⟨(some 2), .none, (.mov (.c (.bool true))), 0, []⟩]) .ret) .skip)) (.seq (.reg false [⟨(some 16), .none, (.mov (.t 0)), 0, []⟩, ⟨(some 17), .none, (.call 48 [(.t 16)]), 1, []⟩, ⟨(some 3), .none, (.newV [(.slice .none 0 0), (.slice .none 0 0)]), 2, []⟩, ⟨.none, .none, (.store 2 (.t 3) (.t 17)), 3, []⟩]) (.seq (.reg false [⟨(some 18), .none, (.load 2 true (.t 3)), 0, []⟩, ⟨(some 19), .none, (.call 44 [(.t 18)]), 1, []⟩, ⟨(some 4), .none, (.mov (.t 19)), 2, []⟩]) (.seq (.seq (.reg false [⟨(some 20), .none, (.load 2 true (.t 3)), 0, []⟩, ⟨(some 21), .none, (.call 49 [(.t 20)]), 1, []⟩, ⟨(some 22), .none, (.un .not (.t 21)), 2, []⟩]) (.cond (.t 22) (.seq (.reg false [⟨(some 23), .none, (.mov (.t 4)), 0, []⟩, ⟨(some 24), .none, (.lenS (.t 23)), 1, []⟩, ⟨(some 25), .none, (.bin .eql (.t 24) (.c (.int .i64 0))), 2, []⟩, ⟨(some 2), .none, (.mov (.t 25)), 3, []⟩]) .ret) .skip)) (.seq (.seq (.reg false [⟨(some 26), .none, (.load 2 true (.t 3)), 0, []⟩, ⟨(some 27), .none, (.mov (.t 4)), 1, []⟩, ⟨(some 28), .none, (.call 40 [(.t 26), (.t 27)]), 2, []⟩, ⟨(some 29), .none, (.un .not (.t 28)), 3, []⟩, ⟨(some 30), .none, (.mov (.t 29)), 4, []⟩, ⟨(some 31), (.some (30, false)), (.load 2 true (.t 3)), 5, []⟩, ⟨(some 32), (.some (30, false)), (.mov (.t 4)), 6, []⟩, ⟨(some 33), (.some (30, false)), (.call 37 [(.t 31), (.t 32)]), 7, []⟩, ⟨(some 34), (.some (30, false)), (.un .not (.t 33)), 8, []⟩, ⟨(some 35), .none, (.pick (.t 30) (.c (.bool true)) (.t 34)), 9, []⟩]) (.cond (.t 35) (.seq (.reg false [⟨(some 2), .none, (.mov (.c (.bool false))), 0, []⟩]) .ret) .skip)) (.seq (.seq (.reg false [⟨(some 5), .none, (.mov (.c (.int .i64 0))), 0, []⟩]) (.block 0 (.loop (.seq (.seq (.reg false [⟨(some 36), .none, (.mov (.t 5)), 0, []⟩, ⟨(some 37), .none, (.mov (.t 4)), 1, []⟩, ⟨(some 38), .none, (.lenS (.t 37)), 2, []⟩, ⟨(some 39), .none, (.bin .lss (.t 36) (.t 38)), 3, []⟩]) (.cond (.t 39) .skip (.exit 0))) (.seq (.block 1 (.seq (.seq (.reg true [⟨(some 42), .none, (.load 2 true (.t 3)), 0, []⟩, ⟨(some 43), .none, (.mov (.t 4)), 1, []⟩, ⟨(some 44), .none, (.mov (.t 5)), 2, []⟩, ⟨(some 45), .none, (.iadr 3 (.t 43) (.t 44)), 3, [1, 2]⟩, ⟨(some 46), .none, (.fadr 0 (.t 45)), 4, [3, 1, 2]⟩, ⟨(some 47), .none, (.load 1 false (.t 46)), 5, [4, 3, 1, 2]⟩, ⟨(some 48), .none, (.call 50 [(.t 42), (.t 47)]), 6, [0, 5, 4, 3, 1, 2]⟩, ⟨(some 49), .none, (.un .not (.t 48)), 7, [6, 0, 5, 4, 3, 1, 2]⟩]) (.cond (.t 49) (.seq (.reg false [⟨(some 2), .none, (.mov (.c (.bool false))), 0, []⟩]) .ret) .skip)) (.seq (.reg false [⟨(some 6), .none, (.mov (.c (.int .i64 0))), 0, []⟩]) (.block 2 (.loop (.seq (.seq (.reg false [⟨(some 50), .none, (.mov (.t 6)), 0, []⟩, ⟨(some 51), .none, (.mov (.t 5)), 1, []⟩, ⟨(some 52), .none, (.bin .lss (.t 50) (.t 51)), 2, []⟩]) (.cond (.t 52) .skip (.exit 2))) (.seq (.block 3 (.seq (.reg true [⟨(some 55), .none, (.mov (.t 4)), 0, []⟩, ⟨(some 56), .none, (.mov (.t 6)), 1, []⟩, ⟨(some 57), .none, (.iadr 3 (.t 55) (.t 56)), 2, [0, 1]⟩, ⟨(some 58), .none, (.fadr 0 (.t 57)), 3, [2, 0, 1]⟩, ⟨(some 59), .none, (.load 1 false (.t 58)), 4, [3, 2, 0, 1]⟩, ⟨(some 60), .none, (.mov (.t 4)), 5, []⟩, ⟨(some 61), .none, (.mov (.t 5)), 6, []⟩, ⟨(some 62), .none, (.iadr 3 (.t 60) (.t 61)), 7, [5, 6]⟩, ⟨(some 63), .none, (.fadr 0 (.t 62)), 8, [7, 5, 6]⟩, ⟨(some 64), .none, (.load 1 false (.t 63)), 9, [8, 7, 5, 6]⟩, ⟨(some 65), .none, (.bin .eql (.t 59) (.t 64)), 10, [4, 3, 2, 0, 1, 9, 8, 7, 5, 6]⟩]) (.cond (.t 65) (.seq (.reg false [⟨(some 2), .none, (.mov (.c (.bool false))), 0, []⟩]) .ret) .skip))) (.reg false [⟨(some 53), .none, (.mov (.t 6)), 0, []⟩, ⟨(some 54), .none, (.bin .add (.t 53) (.c (.int .i64 1))), 1, []⟩, ⟨(some 6), .none, (.mov (.t 54)), 2, []⟩])))))))) (.reg false [⟨(some 40), .none, (.mov (.t 5)), 0, []⟩, ⟨(some 41), .none, (.bin .add (.t 40) (.c (.int .i64 1))), 1, []⟩, ⟨(some 5), .none, (.mov (.t 41)), 2, []⟩])))))) (.seq (.reg false [⟨(some 67), .none, (.mov (.t 0)), 0, []⟩, ⟨(some 68), .none, (.call 51 [(.t 67)]), 1, []⟩, ⟨(some 66), .none, (.mov (.t 68)), 2, []⟩, ⟨(some 69), .none, (.ext (.t 66) 0), 3, []⟩, ⟨(some 70), .none, (.ext (.t 66) 1), 4, []⟩, ⟨(some 7), .none, (.newV [(.slice .none 0 0), (.slice .none 0 0)]), 5, []⟩, ⟨.none, .none, (.store 2 (.t 7) (.t 69)), 6, []⟩, ⟨(some 8), .none, (.mov (.t 70)), 7, []⟩]) (.seq (.reg false [⟨(some 71), .none, (.load 2 true (.t 7)), 0, []⟩, ⟨(some 72), .none, (.call 44 [(.t 71)]), 1, []⟩, ⟨(some 9), .none, (.mov (.t 72)), 2, []⟩]) (.seq (.reg false [⟨(some 10), .none, (.mov (.c (.bool false))), 0, []⟩]) (.seq (.seq (.reg false [⟨(some 11), .none, (.mov (.c (.int .i64 0))), 0, []⟩]) (.block 4 (.loop (.seq (.seq (.reg false [⟨(some 73), .none, (.mov (.t 11)), 0, []⟩, ⟨(some 74), .none, (.mov (.t 9)), 1, []⟩, ⟨(some 75), .none, (.lenS (.t 74)), 2, []⟩, ⟨(some 76), .none, (.bin .lss (.t 73) (.t 75)), 3, []⟩]) (.cond (.t 76) .skip (.exit 4))) (.seq (.block 5 (.reg false [⟨(some 79), .none, (.mov (.t 10)), 0, []⟩, ⟨(some 80), .none, (.mov (.t 79)), 1, []⟩, ⟨(some 81), (.some (80, false)), (.mov (.t 9)), 2, []⟩, ⟨(some 82), (.some (80, false)), (.mov (.t 11)), 3, []⟩, ⟨(some 83), (.some (80, false)), (.iadr 3 (.t 81) (.t 82)), 4, []⟩, ⟨(some 84), (.some (80, false)), (.fadr 0 (.t 83)), 5, []⟩, ⟨(some 85), (.some (80, false)), (.load 1 false (.t 84)), 6, []⟩, ⟨(some 86), (.some (80, false)), (.mov (.t 8)), 7, []⟩, ⟨(some 87), (.some (80, false)), (.bin .eql (.t 85) (.t 86)), 8, []⟩, ⟨(some 88), .none, (.pick (.t 80) (.c (.bool true)) (.t 87)), 9, []⟩, ⟨(some 10), .none, (.mov (.t 88)), 10, []⟩])) (.reg false [⟨(some 77), .none, (.mov (.t 11)), 0, []⟩, ⟨(some 78), .none, (.bin .add (.t 77) (.c (.int .i64 1))), 1, []⟩, ⟨(some 11), .none, (.mov (.t 78)), 2, []⟩])))))) (.seq (.reg false [⟨(some 90), .none, (.mov (.t 0)), 0, []⟩, ⟨(some 91), .none, (.call 52 [(.t 90)]), 1, []⟩, ⟨(some 89), .none, (.mov (.t 91)), 2, []⟩, ⟨(some 92), .none, (.ext (.t 89) 0), 3, []⟩, ⟨(some 93), .none, (.ext (.t 89) 1), 4, []⟩, ⟨(some 12), .none, (.newV [(.slice .none 0 0), (.slice .none 0 0)]), 5, []⟩, ⟨.none, .none, (.store 2 (.t 12) (.t 92)), 6, []⟩, ⟨(some 13), .none, (.mov (.t 93)), 7, []⟩]) (.seq (.reg true [⟨(some 94), .none, (.mov (.t 10)), 0, []⟩, ⟨(some 95), .none, (.load 2 true (.t 7)), 1, []⟩, ⟨(some 96), .none, (.mov (.t 8)), 2, []⟩, ⟨(some 97), .none, (.call 50 [(.t 95), (.t 96)]), 3, [1, 2]⟩, ⟨(some 98), .none, (.beq false (.t 94) (.t 97)), 4, [0, 3, 1, 2]⟩, ⟨(some 99), .none, (.mov (.t 98)), 5, [4, 0, 3, 1, 2]⟩, ⟨(some 100), (.some (99, true)), (.load 2 true (.t 12)), 6, [5, 4, 0, 3, 1, 2]⟩, ⟨(some 101), (.some (99, true)), (.mov (.t 13)), 7, [5, 4, 0, 3, 1, 2]⟩, ⟨(some 102), (.some (99, true)), (.call 40 [(.t 100), (.t 101)]), 8, [6, 5, 4, 0, 3, 1, 2, 7]⟩, ⟨(some 103), (.some (99, true)), (.load 2 true (.t 12)), 9, [5, 4, 0, 3, 1, 2]⟩, ⟨(some 104), (.some (99, true)), (.mov (.t 13)), 10, [5, 4, 0, 3, 1, 2]⟩, ⟨(some 105), (.some (99, true)), (.call 37 [(.t 103), (.t 104)]), 11, [9, 5, 4, 0, 3, 1, 2, 10, 8, 6, 7]⟩, ⟨(some 106), (.some (99, true)), (.beq false (.t 102) (.t 105)), 12, [8, 6, 5, 4, 0, 3, 1, 2, 7, 11, 9, 10]⟩, ⟨(some 107), .none, (.pick (.t 99) (.t 106) (.c (.bool false))), 13, [5, 4, 0, 3, 1, 2, 12, 8, 6, 7, 11, 9, 10]⟩, ⟨(some 2), .none, (.mov (.t 107)), 14, [13, 5, 4, 0, 3, 1, 2, 12, 8, 6, 7, 11, 9, 10]⟩]) .ret))))))))))))), [(.t 2)]⟩
theorem k10 : EE.fns 10 = some c10 := by kernel_rfl
def c48 : CF := ⟨10, (.seq (.reg false [⟨(some 2), .none, (.newV [(.slice .none 0 0), (.slice .none 0 0)]), 0, []⟩]) (.seq (.reg false [⟨(some 4), .none, (.mov (.t 0)), 0, []⟩, ⟨(some 5), .none, (.call 65 [(.t 4)]), 1, []⟩, ⟨(some 3), .none, (.mov (.t 5)), 2, []⟩]) (.seq (.reg false [⟨(some 6), .none, (.mov (.t 3)), 0, []⟩, ⟨(some 7), .none, (.mov (.t 0)), 1, []⟩, ⟨(some 8), .none, (.call 87 [(.t 7), (.c (.int .i64 10))]), 2, []⟩, ⟨(some 9), .none, (.call 86 [(.t 6), (.t 8)]), 3, []⟩, ⟨.none, .none, (.store 2 (.t 2) (.t 9)), 4, []⟩]) .ret))), [(.cell 2 2 true)]⟩
theorem k48 : EE.fns 48 = some c48 := by kernel_rfl
def c50 : CF := ⟨18, (.seq (.reg false [⟨(some 2), .none, (.boxV (.t 0)), 0, []⟩, ⟨(some 4), .none, (.mov (.c (.bool false))), 1, []⟩]) (.seq (.seq (.reg false [⟨(some 7), .none, (.load 2 true (.t 2)), 0, []⟩, ⟨(some 8), .none, (.call 49 [(.t 7)]), 1, []⟩, ⟨(some 9), .none, (.un .not (.t 8)), 2, []⟩]) (.cond (.t 9) (.seq (.reg false [⟨(some 4), .none, (.mov (.c (.bool false))), 0, []⟩]) .ret) .skip)) (.seq (.reg false [⟨(some 11), .none, (.load 2 true (.t 2)), 0, []⟩, ⟨(some 12), .none, (.call 91 [(.t 11)]), 1, []⟩, ⟨(some 10), .none, (.mov (.t 12)), 2, []⟩, ⟨(some 13), .none, (.ext (.t 10) 0), 3, []⟩, ⟨(some 14), .none, (.ext (.t 10) 1), 4, []⟩, ⟨(some 5), .none, (.mov (.t 13)), 5, []⟩, ⟨(some 6), .none, (.mov (.t 14)), 6, []⟩]) (.seq (.reg false [⟨(some 15), .none, (.mov (.t 5)), 0, []⟩, ⟨(some 16), .none, (.mov (.t 1)), 1, []⟩, ⟨(some 17), .none, (.call 89 [(.t 15), (.t 16)]), 2, []⟩, ⟨(some 4), .none, (.mov (.t 17)), 3, []⟩]) .ret)))), [(.t 4)]⟩
theorem k50 : EE.fns 50 = some c50 := by kernel_rfl
def c51 : CF := ⟨45, (.seq (.reg false [⟨(some 2), .none, (.newV [(.slice .none 0 0), (.slice .none 0 0)]), 0, []⟩, ⟨(some 3), .none, (.mov (.c (.string ⟨#[]⟩))), 1, []⟩]) (.seq (.reg false [⟨(some 9), .none, (.mov (.t 0)), 0, []⟩, ⟨(some 10), .none, (.call 65 [(.t 9)]), 1, []⟩, ⟨(some 4), .none, (.mov (.t 10)), 2, []⟩]) (.seq (.reg false [⟨(some 11), .none, (.mov (.t 4)), 0, []⟩, ⟨(some 12), .none, (.mov (.t 0)), 1, []⟩, ⟨(some 13), .none, (.call 87 [(.t 12), (.c (.int .i64 15))]), 2, []⟩, ⟨(some 14), .none, (.call 86 [(.t 11), (.t 13)]), 3, []⟩, ⟨(some 5), .none, (.newV [(.slice .none 0 0), (.slice .none 0 0)]), 4, []⟩, ⟨.none, .none, (.store 2 (.t 5) (.t 14)), 5, []⟩]) (.seq (.reg false [⟨(some 15), .none, (.mov (.t 4)), 0, []⟩, ⟨(some 16), .none, (.call 92 [(.t 15)]), 1, []⟩, ⟨(some 6), .none, (.mov (.t 16)), 2, []⟩]) (.seq (.seq (.reg false [⟨(some 17), .none, (.fadr 0 (.t 5)), 0, []⟩, ⟨(some 18), .none, (.load 1 false (.t 17)), 1, []⟩, ⟨(some 19), .none, (.lenS (.t 18)), 2, []⟩, ⟨(some 20), .none, (.bin .gtr (.t 19) (.c (.int .i64 0))), 3, []⟩, ⟨(some 21), .none, (.mov (.t 20)), 4, []⟩, ⟨(some 22), (.some (21, true)), (.mov (.t 4)), 5, []⟩, ⟨(some 23), (.some (21, true)), (.call 68 [(.t 22), (.c (.int .i64 2))]), 6, []⟩, ⟨(some 24), .none, (.pick (.t 21) (.t 23) (.c (.bool false))), 7, []⟩]) (.cond (.t 24) (.seq (.reg false [⟨(some 26), .none, (.fadr 0 (.t 5)), 0, []⟩, ⟨(some 27), .none, (.load 1 false (.t 26)), 1, []⟩, ⟨(some 28), .none, (.iadr 1 (.t 27) (.c (.int .i64 0))), 2, []⟩, ⟨(some 29), .none, (.load 1 false (.t 28)), 3, []⟩, ⟨(some 30), .none, (.call 93 [(.t 29)]), 4, []⟩, ⟨(some 25), .none, (.mov (.t 30)), 5, []⟩, ⟨(some 31), .none, (.ext (.t 25) 0), 6, []⟩, ⟨(some 32), .none, (.ext (.t 25) 1), 7, []⟩, ⟨(some 7), .none, (.mov (.t 31)), 8, []⟩, ⟨(some 8), .none, (.mov (.t 32)), 9, []⟩]) (.seq (.reg false [⟨(some 33), .none, (.mov (.t 7)), 0, []⟩, ⟨(some 34), .none, (.lenS (.t 33)), 1, []⟩, ⟨(some 35), .none, (.bin .gtr (.t 34) (.c (.int .i64 0))), 2, []⟩]) (.cond (.t 35) (.reg false [⟨(some 36), .none, (.mov (.t 7)), 0, []⟩, ⟨(some 37), .none, (.mov (.t 4)), 1, []⟩, ⟨(some 38), .none, (.mov (.t 7)), 2, []⟩, ⟨(some 39), .none, (.lenS (.t 38)), 3, []⟩, ⟨(some 40), .none, (.call 69 [(.t 37), (.t 39)]), 4, []⟩, ⟨(some 41), .none, (.iadr 1 (.t 36) (.t 40)), 5, []⟩, ⟨(some 42), .none, (.load 1 false (.t 41)), 6, []⟩, ⟨(some 6), .none, (.mov (.t 42)), 7, []⟩]) .skip))) .skip)) (.seq (.reg false [⟨(some 43), .none, (.load 2 true (.t 5)), 0, []⟩, ⟨(some 44), .none, (.mov (.t 6)), 1, []⟩, ⟨.none, .none, (.store 2 (.t 2) (.t 43)), 2, []⟩, ⟨(some 3), .none, (.mov (.t 44)), 3, []⟩]) .ret)))))), [(.cell 2 2 true), (.t 3)]⟩
theorem k51 : EE.fns 51 = some c51 := by kernel_rfl
def c52 : CF := ⟨65, (.seq (.reg false [⟨(some 2), .none, (.newV [(.slice .none 0 0), (.slice .none 0 0)]), 0, []⟩, ⟨(some 3), .none, (.mov (.c (.slice .none 0 0))), 1, []⟩]) (.seq (.reg false [⟨(some 8), .none, (.mov (.t 0)), 0, []⟩, ⟨(some 9), .none, (.call 65 [(.t 8)]), 1, []⟩, ⟨(some 4), .none, (.mov (.t 9)), 2, []⟩]) (.seq (.reg false [⟨(some 10), .none, (.mov (.t 4)), 0, []⟩, ⟨(some 11), .none, (.mov (.t 0)), 1, []⟩, ⟨(some 12), .none, (.call 87 [(.t 11), (.c (.int .i64 8))]), 2, []⟩, ⟨(some 13), .none, (.call 86 [(.t 10), (.t 12)]), 3, []⟩, ⟨(some 5), .none, (.newV [(.slice .none 0 0), (.slice .none 0 0)]), 4, []⟩, ⟨.none, .none, (.store 2 (.t 5) (.t 13)), 5, []⟩]) (.seq (.reg false [⟨(some 14), .none, (.load 2 true (.t 5)), 0, []⟩, ⟨(some 15), .none, (.call 43 [(.t 14)]), 1, []⟩, ⟨(some 6), .none, (.mov (.t 15)), 2, []⟩]) (.seq (.seq (.reg false [⟨(some 16), .none, (.mov (.t 6)), 0, []⟩, ⟨(some 17), .none, (.lenS (.t 16)), 1, []⟩, ⟨(some 18), .none, (.bin .gtr (.t 17) (.c (.int .i64 0))), 2, []⟩, ⟨(some 19), .none, (.mov (.t 18)), 3, []⟩, ⟨(some 20), (.some (19, true)), (.mov (.t 4)), 4, []⟩, ⟨(some 21), (.some (19, true)), (.call 68 [(.t 20), (.c (.int .i64 2))]), 5, []⟩, ⟨(some 22), .none, (.pick (.t 19) (.t 21) (.c (.bool false))), 6, []⟩]) (.cond (.t 22) (.seq (.reg false [⟨(some 23), .none, (.mov (.t 4)), 0, []⟩, ⟨(some 24), .none, (.mov (.t 6)), 1, []⟩, ⟨(some 25), .none, (.lenS (.t 24)), 2, []⟩, ⟨(some 26), .none, (.call 69 [(.t 23), (.t 25)]), 3, []⟩, ⟨(some 7), .none, (.mov (.t 26)), 4, []⟩]) (.seq (.reg false [⟨(some 27), .none, (.mov (.t 4)), 0, []⟩, ⟨(some 28), .none, (.call 69 [(.t 27), (.c (.int .i64 4))]), 1, []⟩]) (.block 0 (.seq (.reg false [⟨(some 38), .none, (.bin .eql (.t 28) (.c (.int .i64 0))), 0, []⟩, ⟨(some 37), .none, (.mov (.t 38)), 1, []⟩]) (.cond (.t 37) (.reg false [⟨(some 39), .none, (.mov (.t 6)), 0, []⟩, ⟨(some 40), .none, (.mov (.t 7)), 1, []⟩, ⟨(some 41), .none, (.mov (.t 4)), 2, []⟩, ⟨(some 42), .none, (.call 69 [(.t 41), (.c (.int .i64 5))]), 3, []⟩, ⟨(some 43), .none, (.bin .sub (.t 42) (.c (.int .i64 2))), 4, []⟩, ⟨(some 44), .none, (.iadr 3 (.t 39) (.t 40)), 5, []⟩, ⟨(some 45), .none, (.fadr 1 (.t 44)), 6, []⟩, ⟨.none, .none, (.store 1 (.t 45) (.t 43)), 7, []⟩]) (.seq (.reg false [⟨(some 47), .none, (.bin .eql (.t 28) (.c (.int .i64 1))), 0, []⟩, ⟨(some 46), .none, (.mov (.t 47)), 1, []⟩]) (.cond (.t 46) (.reg false [⟨(some 48), .none, (.mov (.t 6)), 0, []⟩, ⟨(some 49), .none, (.mov (.t 7)), 1, []⟩, ⟨(some 50), .none, (.mov (.t 4)), 2, []⟩, ⟨(some 51), .none, (.call 69 [(.t 50), (.c (.int .i64 6))]), 3, []⟩, ⟨(some 52), .none, (.bin .sub (.t 51) (.c (.int .i64 3))), 4, []⟩, ⟨(some 53), .none, (.iadr 3 (.t 48) (.t 49)), 5, []⟩, ⟨(some 54), .none, (.fadr 2 (.t 53)), 6, []⟩, ⟨.none, .none, (.store 1 (.t 54) (.t 52)), 7, []⟩]) (.seq (.reg false [⟨(some 56), .none, (.bin .eql (.t 28) (.c (.int .i64 2))), 0, []⟩, ⟨(some 55), .none, (.mov (.t 56)), 1, []⟩]) (.cond (.t 55) (.reg false [⟨(some 57), .none, (.mov (.t 6)), 0, []⟩, ⟨(some 58), .none, (.mov (.t 7)), 1, []⟩, ⟨(some 59), .none, (.mov (.t 4)), 2, []⟩, ⟨(some 60), .none, (.call 92 [(.t 59)]), 3, []⟩, ⟨(some 61), .none, (.iadr 3 (.t 57) (.t 58)), 4, []⟩, ⟨(some 62), .none, (.fadr 0 (.t 61)), 5, []⟩, ⟨.none, .none, (.store 1 (.t 62) (.t 60)), 6, []⟩]) (.reg true [⟨(some 29), .none, (.mov (.t 6)), 0, []⟩, ⟨(some 30), .none, (.mov (.t 7)), 1, []⟩, ⟨(some 31), .none, (.slc 3 (.t 29) .none (.some (.t 30))), 2, [0, 1]⟩, ⟨(some 32), .none, (.mov (.t 6)), 3, []⟩, ⟨(some 33), .none, (.mov (.t 7)), 4, []⟩, ⟨(some 34), .none, (.bin .add (.t 33) (.c (.int .i64 1))), 5, [4]⟩, ⟨(some 35), .none, (.slc 3 (.t 32) (.some (.t 34)) .none), 6, [3, 5, 4]⟩, ⟨(some 36), .none, (.app 3 32 (.t 31) (.t 35)), 7, [2, 0, 1, 6, 3, 5, 4]⟩, ⟨(some 6), .none, (.mov (.t 36)), 8, [7, 2, 0, 1, 6, 3, 5, 4]⟩])))))))))) .skip)) (.seq (.reg false [⟨(some 63), .none, (.load 2 true (.t 5)), 0, []⟩, ⟨(some 64), .none, (.mov (.t 6)), 1, []⟩, ⟨.none, .none, (.store 2 (.t 2) (.t 63)), 2, []⟩, ⟨(some 3), .none, (.mov (.t 64)), 3, []⟩]) .ret)))))), [(.cell 2 2 true), (.t 3)]⟩
theorem k52 : EE.fns 52 = some c52 := by kernel_rfl
def c86 : CF := ⟨65, (.seq (.reg false [⟨(some 4), .none, (.newV [(.slice .none 0 0), (.slice .none 0 0)]), 0, []⟩]) (.seq (.reg false [⟨(some 7), .none, (.build [(.slice .none 0 0), (.slice .none 0 0)] []), 0, []⟩, ⟨(some 5), .none, (.newV [(.slice .none 0 0), (.slice .none 0 0)]), 1, []⟩, ⟨.none, .none, (.store 2 (.t 5) (.t 7)), 2, []⟩]) (.seq (.seq (.reg false [⟨(some 8), .none, (.mov (.t 0)), 0, []⟩, ⟨(some 9), .none, (.mov (.t 1)), 1, []⟩, ⟨(some 10), .none, (.call 69 [(.t 8), (.t 9)]), 2, []⟩, ⟨(some 6), .none, (.mov (.t 10)), 3, []⟩]) (.block 0 (.loop (.seq (.seq (.reg false [⟨(some 11), .none, (.mov (.t 6)), 0, []⟩, ⟨(some 12), .none, (.bin .gtr (.t 11) (.c (.int .i64 0))), 1, []⟩]) (.cond (.t 12) .skip (.exit 0))) (.seq (.block 1 (.seq (.reg false [⟨(some 15), .none, (.mov (.t 0)), 0, []⟩, ⟨(some 16), .none, (.call 68 [(.t 15), (.c (.int .i64 4))]), 1, []⟩]) (.cond (.t 16) (.reg true [⟨(some 17), .none, (.fadr 1 (.t 5)), 0, []⟩, ⟨(some 18), .none, (.load 1 false (.t 17)), 1, [0]⟩, ⟨(some 19), .none, (.mov (.t 0)), 2, []⟩, ⟨(some 20), .none, (.call 69 [(.t 19), (.c (.int .i64 6))]), 3, [2]⟩, ⟨(some 21), .none, (.bin .add (.c (.int .i64 1)) (.t 20)), 4, [3, 2]⟩, ⟨(some 22), .none, (.call 123 [(.t 18), (.t 21)]), 5, [1, 0, 4, 3, 2]⟩, ⟨(some 23), .none, (.fadr 1 (.t 5)), 6, [0, 1, 2, 3, 4, 5]⟩, ⟨.none, .none, (.store 1 (.t 23) (.t 22)), 7, [6, 0, 1, 2, 3, 4, 5]⟩]) (.reg true [⟨(some 24), .none, (.load 2 true (.t 5)), 0, []⟩, ⟨(some 25), .none, (.mov (.t 0)), 1, []⟩, ⟨(some 26), .none, (.call 125 [(.t 25), (.c (.int .i64 4))]), 2, [1]⟩, ⟨(some 27), .none, (.call 124 [(.t 24), (.t 26)]), 3, [0, 2, 1]⟩, ⟨.none, .none, (.store 2 (.t 5) (.t 27)), 4, [3, 0, 2, 1]⟩])))) (.reg false [⟨(some 13), .none, (.mov (.t 6)), 0, []⟩, ⟨(some 14), .none, (.bin .sub (.t 13) (.c (.int .i64 1))), 1, []⟩, ⟨(some 6), .none, (.mov (.t 14)), 2, []⟩])))))) (.seq (.seq (.reg false [⟨(some 28), .none, (.mov (.t 0)), 0, []⟩, ⟨(some 29), .none, (.call 68 [(.t 28), (.c (.int .i64 10))]), 1, []⟩]) (.cond (.t 29) (.seq (.reg false [⟨(some 30), .none, (.mov (.t 0)), 0, []⟩, ⟨(some 31), .none, (.call 69 [(.t 30), (.c (.int .i64 3))]), 1, []⟩]) (.block 2 (.seq (.reg false [⟨(some 46), .none, (.bin .eql (.t 31) (.c (.int .i64 0))), 0, []⟩, ⟨(some 45), .none, (.mov (.t 46)), 1, []⟩]) (.cond (.t 45) (.reg true [⟨(some 47), .none, (.fadr 1 (.t 5)), 0, []⟩, ⟨(some 48), .none, (.load 1 false (.t 47)), 1, [0]⟩, ⟨(some 49), .none, (.mov (.t 0)), 2, []⟩, ⟨(some 50), .none, (.mkO 3 1 [(.int .i64 0)] [(0, (.c (.int .i64 0))), (1, (.c (.int .i64 1))), (2, (.c (.int .i64 1000001)))]), 3, []⟩, ⟨(some 51), .none, (.call 66 [(.t 49), (.t 50)]), 4, [2, 3]⟩, ⟨(some 52), .none, (.mkV 1 1 [(.int .i64 0)] [(0, (.t 51))]), 5, [4, 2, 3]⟩, ⟨(some 53), .none, (.app 1 8 (.t 48) (.t 52)), 6, [1, 0, 5, 4, 2, 3]⟩, ⟨(some 54), .none, (.fadr 1 (.t 5)), 7, [0, 1, 2, 3, 4, 5, 6]⟩, ⟨.none, .none, (.store 1 (.t 54) (.t 53)), 8, [7, 0, 1, 2, 3, 4, 5, 6]⟩]) (.seq (.reg false [⟨(some 56), .none, (.bin .eql (.t 31) (.c (.int .i64 1))), 0, []⟩, ⟨(some 55), .none, (.mov (.t 56)), 1, []⟩]) (.cond (.t 55) (.reg true [⟨(some 57), .none, (.fadr 0 (.t 5)), 0, []⟩, ⟨(some 58), .none, (.load 1 false (.t 57)), 1, [0]⟩, ⟨(some 59), .none, (.mov (.t 0)), 2, []⟩, ⟨(some 60), .none, (.call 92 [(.t 59)]), 3, [2]⟩, ⟨(some 61), .none, (.mkV 1 1 [(.string ⟨#[]⟩)] [(0, (.t 60))]), 4, [3, 2]⟩, ⟨(some 62), .none, (.app 1 16 (.t 58) (.t 61)), 5, [1, 0, 4, 3, 2]⟩, ⟨(some 63), .none, (.fadr 0 (.t 5)), 6, [0, 1, 2, 3, 4, 5]⟩, ⟨.none, .none, (.store 1 (.t 63) (.t 62)), 7, [6, 0, 1, 2, 3, 4, 5]⟩]) (.seq (.reg false [⟨(some 32), .none, (.fadr 0 (.t 5)), 0, []⟩, ⟨(some 33), .none, (.load 1 false (.t 32)), 1, []⟩, ⟨(some 34), .none, (.lenS (.t 33)), 2, []⟩, ⟨(some 35), .none, (.bin .gtr (.t 34) (.c (.int .i64 0))), 3, []⟩]) (.cond (.t 35) (.reg true [⟨(some 36), .none, (.fadr 0 (.t 5)), 0, []⟩, ⟨(some 37), .none, (.load 1 false (.t 36)), 1, [0]⟩, ⟨(some 38), .none, (.fadr 0 (.t 5)), 2, []⟩, ⟨(some 39), .none, (.load 1 false (.t 38)), 3, [2]⟩, ⟨(some 40), .none, (.iadr 1 (.t 39) (.c (.int .i64 0))), 4, [3, 2]⟩, ⟨(some 41), .none, (.load 1 false (.t 40)), 5, [4, 3, 2]⟩, ⟨(some 42), .none, (.mkV 1 1 [(.string ⟨#[]⟩)] [(0, (.t 41))]), 6, [5, 4, 3, 2]⟩, ⟨(some 43), .none, (.app 1 16 (.t 37) (.t 42)), 7, [1, 0, 6, 5, 4, 3, 2]⟩, ⟨(some 44), .none, (.fadr 0 (.t 5)), 8, [0, 1, 2, 3, 4, 5, 6, 7]⟩, ⟨.none, .none, (.store 1 (.t 44) (.t 43)), 9, [8, 0, 1, 2, 3, 4, 5, 6, 7]⟩]) .skip)))))))) .skip)) (.seq (.reg false [⟨(some 64), .none, (.load 2 true (.t 5)), 0, []⟩, ⟨.none, .none, (.store 2 (.t 4) (.t 64)), 1, []⟩]) .ret))))), [(.cell 4 2 true)]⟩
theorem k86 : EE.fns 86 = some c86 := by kernel_rfl
def c87 : CF := ⟨15, (.seq (.reg false [⟨(some 4), .none, (.mov (.c (.int .i64 0))), 0, []⟩]) (.seq (.reg false [⟨(some 6), .none, (.mov (.t 0)), 0, []⟩, ⟨(some 7), .none, (.lenS (.t 6)), 1, []⟩, ⟨(some 8), .none, (.bin .quo (.t 7) (.c (.int .i64 20))), 2, []⟩, ⟨(some 9), .none, (.bin .add (.c (.int .i64 2)) (.t 8)), 3, []⟩, ⟨(some 5), .none, (.mov (.t 9)), 4, []⟩]) (.seq (.seq (.reg false [⟨(some 10), .none, (.mov (.t 5)), 0, []⟩, ⟨(some 11), .none, (.mov (.t 1)), 1, []⟩, ⟨(some 12), .none, (.bin .gtr (.t 10) (.t 11)), 2, []⟩]) (.cond (.t 12) (.seq (.reg false [⟨(some 13), .none, (.mov (.t 1)), 0, []⟩, ⟨(some 4), .none, (.mov (.t 13)), 1, []⟩]) .ret) .skip)) (.seq (.reg false [⟨(some 14), .none, (.mov (.t 5)), 0, []⟩, ⟨(some 4), .none, (.mov (.t 14)), 1, []⟩]) .ret)))), [(.t 4)]⟩
theorem k87 : EE.fns 87 = some c87 := by kernel_rfl
def c91 : CF := ⟨116, (.seq (.reg false [⟨(some 1), .none, (.boxV (.t 0)), 0, []⟩, ⟨(some 2), .none, (.mov (.c (.slice .none 0 0))), 1, []⟩, ⟨(some 3), .none, (.mov (.c (.slice .none 0 0))), 2, []⟩]) (.seq (.reg false [⟨(some 17), .none, (.mkO 0 1 [(.string ⟨#[]⟩)] []), 0, []⟩, ⟨(some 18), .none, (.fadr 0 (.t 1)), 1, []⟩, ⟨(some 19), .none, (.load 1 false (.t 18)), 2, []⟩, ⟨(some 20), .none, (.app 1 16 (.t 17) (.t 19)), 3, []⟩, ⟨(some 4), .none, (.mov (.t 20)), 4, []⟩]) (.seq (.reg false [⟨(some 21), .none, (.mkO 0 1 [(.int .i64 0)] []), 0, []⟩, ⟨(some 22), .none, (.fadr 1 (.t 1)), 1, []⟩, ⟨(some 23), .none, (.load 1 false (.t 22)), 2, []⟩, ⟨(some 24), .none, (.app 1 8 (.t 21) (.t 23)), 3, []⟩, ⟨(some 5), .none, (.mov (.t 24)), 4, []⟩]) (.block 0 (.loop (.block 1 (.seq (.reg false [⟨(some 25), .none, (.mov (.t 4)), 0, []⟩, ⟨(some 26), .none, (.lenS (.t 25)), 1, []⟩, ⟨(some 6), .none, (.mov (.t 26)), 2, []⟩]) (.seq (.reg false [⟨(some 27), .none, (.mov (.t 5)), 0, []⟩, ⟨(some 28), .none, (.lenS (.t 27)), 1, []⟩, ⟨(some 7), .none, (.mov (.t 28)), 2, []⟩]) (.seq (.seq (.reg false [⟨(some 8), .none, (.mov (.c (.int .i64 0))), 0, []⟩]) (.block 2 (.loop (.seq (.seq (.reg false [⟨(some 29), .none, (.mov (.t 8)), 0, []⟩, ⟨(some 30), .none, (.mov (.t 4)), 1, []⟩, ⟨(some 31), .none, (.lenS (.t 30)), 2, []⟩, ⟨(some 32), .none, (.bin .lss (.t 29) (.t 31)), 3, []⟩]) (.cond (.t 32) .skip (.exit 2))) (.seq (.block 3 (.seq (.reg false [⟨(some 36), .none, (.mov (.t 4)), 0, []⟩, ⟨(some 37), .none, (.mov (.t 8)), 1, []⟩, ⟨(some 38), .none, (.iadr 1 (.t 36) (.t 37)), 2, []⟩, ⟨(some 39), .none, (.load 1 false (.t 38)), 3, []⟩, ⟨(some 40), .none, (.call 110 [(.t 39)]), 4, []⟩, ⟨(some 35), .none, (.mov (.t 40)), 5, []⟩, ⟨(some 41), .none, (.ext (.t 35) 0), 6, []⟩, ⟨(some 42), .none, (.ext (.t 35) 1), 7, []⟩, ⟨(some 9), .none, (.mov (.t 41)), 8, []⟩, ⟨(some 10), .none, (.mov (.t 42)), 9, []⟩]) (.seq (.seq (.reg false [⟨(some 43), .none, (.mov (.t 10)), 0, []⟩]) (.cond (.t 43) (.reg false [⟨(some 44), .none, (.mov (.t 5)), 0, []⟩, ⟨(some 45), .none, (.mov (.t 9)), 1, []⟩, ⟨(some 46), .none, (.call 123 [(.t 44), (.t 45)]), 2, []⟩, ⟨(some 5), .none, (.mov (.t 46)), 3, []⟩]) .skip)) (.seq (.reg false [⟨(some 48), .none, (.mov (.t 4)), 0, []⟩, ⟨(some 49), .none, (.mov (.t 8)), 1, []⟩, ⟨(some 50), .none, (.iadr 1 (.t 48) (.t 49)), 2, []⟩, ⟨(some 51), .none, (.load 1 false (.t 50)), 3, []⟩, ⟨(some 52), .none, (.call 93 [(.t 51)]), 4, []⟩, ⟨(some 47), .none, (.mov (.t 52)), 5, []⟩, ⟨(some 53), .none, (.ext (.t 47) 0), 6, []⟩, ⟨(some 54), .none, (.ext (.t 47) 1), 7, []⟩, ⟨(some 11), .none, (.mov (.t 53)), 8, []⟩, ⟨(some 12), .none, (.mov (.t 54)), 9, []⟩]) (.seq (.seq (.reg false [⟨(some 13), .none, (.mov (.c (.int .i64 0))), 0, []⟩]) (.block 4 (.loop (.seq (.seq (.reg false [⟨(some 55), .none, (.mov (.t 13)), 0, []⟩, ⟨(some 56), .none, (.mov (.t 11)), 1, []⟩, ⟨(some 57), .none, (.lenS (.t 56)), 2, []⟩, ⟨(some 58), .none, (.bin .lss (.t 55) (.t 57)), 3, []⟩]) (.cond (.t 58) .skip (.exit 4))) (.seq (.block 5 (.seq (.reg false [⟨(some 61), .none, (.mov (.t 4)), 0, []⟩, ⟨(some 62), .none, (.mov (.t 11)), 1, []⟩, ⟨(some 63), .none, (.mov (.t 13)), 2, []⟩, ⟨(some 64), .none, (.iadr 1 (.t 62) (.t 63)), 3, []⟩, ⟨(some 65), .none, (.load 1 false (.t 64)), 4, []⟩, ⟨(some 66), .none, (.call 89 [(.t 61), (.t 65)]), 5, []⟩, ⟨(some 67), .none, (.un .not (.t 66)), 6, []⟩]) (.cond (.t 67) (.reg false [⟨(some 68), .none, (.mov (.t 4)), 0, []⟩, ⟨(some 69), .none, (.mov (.t 11)), 1, []⟩, ⟨(some 70), .none, (.mov (.t 13)), 2, []⟩, ⟨(some 71), .none, (.iadr 1 (.t 69) (.t 70)), 3, []⟩, ⟨(some 72), .none, (.load 1 false (.t 71)), 4, []⟩, ⟨(some 73), .none, (.mkV 1 1 [(.string ⟨#[]⟩)] [(0, (.t 72))]), 5, []⟩, ⟨(some 74), .none, (.app 1 16 (.t 68) (.t 73)), 6, []⟩, ⟨(some 4), .none, (.mov (.t 74)), 7, []⟩]) .skip))) (.reg false [⟨(some 59), .none, (.mov (.t 13)), 0, []⟩, ⟨(some 60), .none, (.bin .add (.t 59) (.c (.int .i64 1))), 1, []⟩, ⟨(some 13), .none, (.mov (.t 60)), 2, []⟩])))))) (.seq (.reg false [⟨(some 14), .none, (.mov (.c (.int .i64 0))), 0, []⟩]) (.block 6 (.loop (.seq (.seq (.reg false [⟨(some 75), .none, (.mov (.t 14)), 0, []⟩, ⟨(some 76), .none, (.mov (.t 5)), 1, []⟩, ⟨(some 77), .none, (.lenS (.t 76)), 2, []⟩, ⟨(some 78), .none, (.bin .lss (.t 75) (.t 77)), 3, []⟩]) (.cond (.t 78) .skip (.exit 6))) (.seq (.block 7 (.seq (.reg true [⟨(some 82), .none, (.mov (.t 4)), 0, []⟩, ⟨(some 83), .none, (.mov (.t 8)), 1, []⟩, ⟨(some 84), .none, (.iadr 1 (.t 82) (.t 83)), 2, [0, 1]⟩, ⟨(some 85), .none, (.load 1 false (.t 84)), 3, [2, 0, 1]⟩, ⟨(some 86), .none, (.mov (.t 5)), 4, []⟩, ⟨(some 87), .none, (.mov (.t 14)), 5, []⟩, ⟨(some 88), .none, (.iadr 1 (.t 86) (.t 87)), 6, [4, 5]⟩, ⟨(some 89), .none, (.load 1 false (.t 88)), 7, [6, 4, 5]⟩, ⟨(some 90), .none, (.call 100 [(.t 85), (.t 89)]), 8, [3, 2, 0, 1, 7, 6, 4, 5]⟩, ⟨(some 81), .none, (.mov (.t 90)), 9, [8, 3, 2, 0, 1, 7, 6, 4, 5]⟩, ⟨(some 91), .none, (.ext (.t 81) 0), 10, [9, 8, 3, 2, 0, 1, 7, 6, 4, 5]⟩, ⟨(some 92), .none, (.ext (.t 81) 1), 11, [9, 8, 3, 2, 0, 1, 7, 6, 4, 5]⟩, ⟨(some 15), .none, (.mov (.t 91)), 12, [10, 9, 8, 3, 2, 0, 1, 7, 6, 4, 5]⟩, ⟨(some 16), .none, (.mov (.t 92)), 13, [11, 9, 8, 3, 2, 0, 1, 7, 6, 4, 5, 12, 10]⟩]) (.seq (.reg false [⟨(some 93), .none, (.mov (.t 16)), 0, []⟩, ⟨(some 94), .none, (.mov (.t 93)), 1, []⟩, ⟨(some 95), (.some (94, true)), (.mov (.t 4)), 2, []⟩, ⟨(some 96), (.some (94, true)), (.mov (.t 15)), 3, []⟩, ⟨(some 97), (.some (94, true)), (.call 89 [(.t 95), (.t 96)]), 4, []⟩, ⟨(some 98), (.some (94, true)), (.un .not (.t 97)), 5, []⟩, ⟨(some 99), .none, (.pick (.t 94) (.t 98) (.c (.bool false))), 6, []⟩]) (.cond (.t 99) (.reg false [⟨(some 100), .none, (.mov (.t 4)), 0, []⟩, ⟨(some 101), .none, (.mov (.t 15)), 1, []⟩, ⟨(some 102), .none, (.mkV 1 1 [(.string ⟨#[]⟩)] [(0, (.t 101))]), 2, []⟩, ⟨(some 103), .none, (.app 1 16 (.t 100) (.t 102)), 3, []⟩, ⟨(some 4), .none, (.mov (.t 103)), 4, []⟩]) .skip)))) (.reg false [⟨(some 79), .none, (.mov (.t 14)), 0, []⟩, ⟨(some 80), .none, (.bin .add (.t 79) (.c (.int .i64 1))), 1, []⟩, ⟨(some 14), .none, (.mov (.t 80)), 2, []⟩]))))))))))) (.reg false [⟨(some 33), .none, (.mov (.t 8)), 0, []⟩, ⟨(some 34), .none, (.bin .add (.t 33) (.c (.int .i64 1))), 1, []⟩, ⟨(some 8), .none, (.mov (.t 34)), 2, []⟩])))))) (.seq (.reg false [⟨(some 104), .none, (.mov (.t 4)), 0, []⟩, ⟨(some 105), .none, (.lenS (.t 104)), 1, []⟩, ⟨(some 106), .none, (.mov (.t 6)), 2, []⟩, ⟨(some 107), .none, (.bin .eql (.t 105) (.t 106)), 3, []⟩, ⟨(some 108), .none, (.mov (.t 107)), 4, []⟩, ⟨(some 109), (.some (108, true)), (.mov (.t 5)), 5, []⟩, ⟨(some 110), (.some (108, true)), (.lenS (.t 109)), 6, []⟩, ⟨(some 111), (.some (108, true)), (.mov (.t 7)), 7, []⟩, ⟨(some 112), (.some (108, true)), (.bin .eql (.t 110) (.t 111)), 8, []⟩, ⟨(some 113), .none, (.pick (.t 108) (.t 112) (.c (.bool false))), 9, []⟩]) (.cond (.t 113) (.seq (.reg false [⟨(some 114), .none, (.mov (.t 4)), 0, []⟩, ⟨(some 115), .none, (.mov (.t 5)), 1, []⟩, ⟨(some 2), .none, (.mov (.t 114)), 2, []⟩, ⟨(some 3), .none, (.mov (.t 115)), 3, []⟩]) .ret) .skip))))))))))), [(.t 2), (.t 3)]⟩
theorem k91 : EE.fns 91 = some c91 := by kernel_rfl
def c92 : CF := ⟨24, (.seq (.reg false [⟨(some 2), .none, (.mov (.c (.string ⟨#[]⟩))), 0, []⟩]) (.seq (.reg false [⟨(some 5), .none, (.mov (.t 0)), 0, []⟩, ⟨(some 6), .none, (.mov (.t 0)), 1, []⟩, ⟨(some 7), .none, (.call 69 [(.t 6), (.c (.int .i64 5))]), 2, []⟩, ⟨(some 8), .none, (.bin .add (.c (.int .i64 1)) (.t 7)), 3, []⟩, ⟨(some 9), .none, (.call 125 [(.t 5), (.t 8)]), 4, []⟩, ⟨(some 3), .none, (.mov (.t 9)), 5, []⟩]) (.seq (.seq (.reg false [⟨(some 10), .none, (.mov (.t 0)), 0, []⟩, ⟨(some 11), .none, (.call 68 [(.t 10), (.c (.int .i64 4))]), 1, []⟩]) (.cond (.t 11) (.seq (.reg false [⟨(some 12), .none, (.mov (.t 0)), 0, []⟩, ⟨(some 13), .none, (.mov (.t 3)), 1, []⟩, ⟨(some 14), .none, (.call 70 [(.t 12), (.t 13)]), 2, []⟩, ⟨(some 2), .none, (.mov (.t 14)), 3, []⟩]) .ret) .skip)) (.seq (.seq (.reg false [⟨(some 15), .none, (.mov (.t 0)), 0, []⟩, ⟨(some 16), .none, (.call 68 [(.t 15), (.c (.int .i64 30))]), 1, []⟩]) (.cond (.t 16) (.seq (.reg false [⟨(some 4), .none, (.mov (.c (.int .i64 0))), 0, []⟩]) (.block 0 (.loop (.seq (.seq (.reg false [⟨(some 17), .none, (.mov (.t 4)), 0, []⟩, ⟨(some 18), .none, (.bin .lss (.t 17) (.c (.int .i64 9))), 1, []⟩]) (.cond (.t 18) .skip (.exit 0))) (.seq (.block 1 (.reg false [⟨(some 21), .none, (.mov (.t 3)), 0, []⟩, ⟨(some 22), .none, (.bin .add (.c (.string ⟨#[115, 1]⟩)) (.t 21)), 1, []⟩, ⟨(some 3), .none, (.mov (.t 22)), 2, []⟩])) (.reg false [⟨(some 19), .none, (.mov (.t 4)), 0, []⟩, ⟨(some 20), .none, (.bin .add (.t 19) (.c (.int .i64 1))), 1, []⟩, ⟨(some 4), .none, (.mov (.t 20)), 2, []⟩])))))) .skip)) (.seq (.reg false [⟨(some 23), .none, (.mov (.t 3)), 0, []⟩, ⟨(some 2), .none, (.mov (.t 23)), 1, []⟩]) .ret))))), [(.t 2)]⟩
theorem k92 : EE.fns 92 = some c92 := by kernel_rfl
def c123 : CF := ⟨47, (.seq (.reg false [⟨(some 4), .none, (.mov (.c (.slice .none 0 0))), 0, []⟩]) (.seq (.seq (.reg false [⟨(some 8), .none, (.mov (.t 0)), 0, []⟩, ⟨(some 9), .none, (.mov (.t 1)), 1, []⟩, ⟨(some 10), .none, (.call 109 [(.t 8), (.t 9)]), 2, []⟩]) (.cond (.t 10) (.seq (.reg false [⟨(some 11), .none, (.mov (.t 0)), 0, []⟩, ⟨(some 4), .none, (.mov (.t 11)), 1, []⟩]) .ret) .skip)) (.seq (.reg false [⟨(some 12), .none, (.mkO 0 1 [(.int .i64 0)] []), 0, []⟩, ⟨(some 5), .none, (.mov (.t 12)), 1, []⟩]) (.seq (.reg false [⟨(some 6), .none, (.mov (.c (.bool false))), 0, []⟩]) (.seq (.seq (.reg false [⟨(some 7), .none, (.mov (.c (.int .i64 0))), 0, []⟩]) (.block 0 (.loop (.seq (.seq (.reg false [⟨(some 13), .none, (.mov (.t 7)), 0, []⟩, ⟨(some 14), .none, (.mov (.t 0)), 1, []⟩, ⟨(some 15), .none, (.lenS (.t 14)), 2, []⟩, ⟨(some 16), .none, (.bin .lss (.t 13) (.t 15)), 3, []⟩]) (.cond (.t 16) .skip (.exit 0))) (.seq (.block 1 (.seq (.seq (.reg false [⟨(some 19), .none, (.mov (.t 6)), 0, []⟩, ⟨(some 20), .none, (.un .not (.t 19)), 1, []⟩, ⟨(some 21), .none, (.mov (.t 20)), 2, []⟩, ⟨(some 22), (.some (21, true)), (.mov (.t 1)), 3, []⟩, ⟨(some 23), (.some (21, true)), (.mov (.t 0)), 4, []⟩, ⟨(some 24), (.some (21, true)), (.mov (.t 7)), 5, []⟩, ⟨(some 25), (.some (21, true)), (.iadr 1 (.t 23) (.t 24)), 6, []⟩, ⟨(some 26), (.some (21, true)), (.load 1 false (.t 25)), 7, []⟩, ⟨(some 27), (.some (21, true)), (.bin .lss (.t 22) (.t 26)), 8, []⟩, ⟨(some 28), .none, (.pick (.t 21) (.t 27) (.c (.bool false))), 9, []⟩]) (.cond (.t 28) (.seq (.reg false [⟨(some 29), .none, (.mov (.t 5)), 0, []⟩, ⟨(some 30), .none, (.mov (.t 1)), 1, []⟩, ⟨(some 31), .none, (.mkV 1 1 [(.int .i64 0)] [(0, (.t 30))]), 2, []⟩, ⟨(some 32), .none, (.app 1 8 (.t 29) (.t 31)), 3, []⟩, ⟨(some 5), .none, (.mov (.t 32)), 4, []⟩]) (.reg false [⟨(some 6), .none, (.mov (.c (.bool true))), 0, []⟩])) .skip)) (.reg false [⟨(some 33), .none, (.mov (.t 5)), 0, []⟩, ⟨(some 34), .none, (.mov (.t 0)), 1, []⟩, ⟨(some 35), .none, (.mov (.t 7)), 2, []⟩, ⟨(some 36), .none, (.iadr 1 (.t 34) (.t 35)), 3, []⟩, ⟨(some 37), .none, (.load 1 false (.t 36)), 4, []⟩, ⟨(some 38), .none, (.mkV 1 1 [(.int .i64 0)] [(0, (.t 37))]), 5, []⟩, ⟨(some 39), .none, (.app 1 8 (.t 33) (.t 38)), 6, []⟩, ⟨(some 5), .none, (.mov (.t 39)), 7, []⟩]))) (.reg false [⟨(some 17), .none, (.mov (.t 7)), 0, []⟩, ⟨(some 18), .none, (.bin .add (.t 17) (.c (.int .i64 1))), 1, []⟩, ⟨(some 7), .none, (.mov (.t 18)), 2, []⟩])))))) (.seq (.seq (.reg false [⟨(some 40), .none, (.mov (.t 6)), 0, []⟩, ⟨(some 41), .none, (.un .not (.t 40)), 1, []⟩]) (.cond (.t 41) (.reg false [⟨(some 42), .none, (.mov (.t 5)), 0, []⟩, ⟨(some 43), .none, (.mov (.t 1)), 1, []⟩, ⟨(some 44), .none, (.mkV 1 1 [(.int .i64 0)] [(0, (.t 43))]), 2, []⟩, ⟨(some 45), .none, (.app 1 8 (.t 42) (.t 44)), 3, []⟩, ⟨(some 5), .none, (.mov (.t 45)), 4, []⟩]) .skip)) (.seq (.reg false [⟨(some 46), .none, (.mov (.t 5)), 0, []⟩, ⟨(some 4), .none, (.mov (.t 46)), 1, []⟩]) .ret))))))), [(.t 4)]⟩
theorem k123 : EE.fns 123 = some c123 := by kernel_rfl
def c124 : CF := ⟨27, (.seq (.reg false [⟨(some 2), .none, (.boxV (.t 0)), 0, []⟩, ⟨(some 4), .none, (.newV [(.slice .none 0 0), (.slice .none 0 0)]), 1, []⟩]) (.seq (.seq (.reg false [⟨(some 5), .none, (.mov (.t 1)), 0, []⟩, ⟨(some 6), .none, (.call 88 [(.t 5)]), 1, []⟩, ⟨(some 7), .none, (.mov (.t 6)), 2, []⟩, ⟨(some 8), (.some (7, true)), (.fadr 0 (.t 2)), 3, []⟩, ⟨(some 9), (.some (7, true)), (.load 1 false (.t 8)), 4, []⟩, ⟨(some 10), (.some (7, true)), (.mov (.t 1)), 5, []⟩, ⟨(some 11), (.some (7, true)), (.call 89 [(.t 9), (.t 10)]), 6, []⟩, ⟨(some 12), (.some (7, true)), (.un .not (.t 11)), 7, []⟩, ⟨(some 13), .none, (.pick (.t 7) (.t 12) (.c (.bool false))), 8, []⟩, ⟨(some 14), .none, (.mov (.t 13)), 9, []⟩, ⟨(some 15), (.some (14, true)), (.fadr 0 (.t 2)), 10, []⟩, ⟨(some 16), (.some (14, true)), (.load 1 false (.t 15)), 11, []⟩, ⟨(some 17), (.some (14, true)), (.lenS (.t 16)), 12, []⟩, ⟨(some 18), (.some (14, true)), (.bin .lss (.t 17) (.c (.int .i64 60))), 13, []⟩, ⟨(some 19), .none, (.pick (.t 14) (.t 18) (.c (.bool false))), 14, []⟩]) (.cond (.t 19) (.reg false [⟨(some 20), .none, (.fadr 0 (.t 2)), 0, []⟩, ⟨(some 21), .none, (.load 1 false (.t 20)), 1, []⟩, ⟨(some 22), .none, (.mov (.t 1)), 2, []⟩, ⟨(some 23), .none, (.mkV 1 1 [(.string ⟨#[]⟩)] [(0, (.t 22))]), 3, []⟩, ⟨(some 24), .none, (.app 1 16 (.t 21) (.t 23)), 4, []⟩, ⟨(some 25), .none, (.fadr 0 (.t 2)), 5, []⟩, ⟨.none, .none, (.store 1 (.t 25) (.t 24)), 6, []⟩]) .skip)) (.seq (.reg false [⟨(some 26), .none, (.load 2 true (.t 2)), 0, []⟩, ⟨.none, .none, (.store 2 (.t 4) (.t 26)), 1, []⟩]) .ret))), [(.cell 4 2 true)]⟩
theorem k124 : EE.fns 124 = some c124 := by kernel_rfl
def c125 : CF := ⟨56, (.seq (.reg false [⟨(some 4), .none, (.mov (.c (.string ⟨#[]⟩))), 0, []⟩]) (.seq (.reg false [⟨(some 8), .none, (.mov (.t 0)), 0, []⟩, ⟨(some 9), .none, (.call 69 [(.t 8), (.c (.int .i64 5))]), 1, []⟩, ⟨(some 5), .none, (.mov (.t 9)), 2, []⟩]) (.seq (.seq (.reg false [⟨(some 10), .none, (.mov (.t 1)), 0, []⟩, ⟨(some 11), .none, (.bin .lss (.t 10) (.c (.int .i64 2))), 1, []⟩, ⟨(some 12), .none, (.mov (.t 11)), 2, []⟩, ⟨(some 13), (.some (12, true)), (.mov (.t 5)), 3, []⟩, ⟨(some 14), (.some (12, true)), (.bin .gtr (.t 13) (.c (.int .i64 1))), 4, []⟩, ⟨(some 15), .none, (.pick (.t 12) (.t 14) (.c (.bool false))), 5, []⟩]) (.cond (.t 15) (.reg false [⟨(some 16), .none, (.mov (.t 0)), 0, []⟩, ⟨(some 17), .none, (.call 69 [(.t 16), (.c (.int .i64 2))]), 1, []⟩, ⟨(some 5), .none, (.mov (.t 17)), 2, []⟩]) .skip)) (.seq (.seq (.reg false [⟨(some 18), .none, (.mov (.t 5)), 0, []⟩]) (.block 0 (.seq (.reg false [⟨(some 20), .none, (.bin .eql (.t 18) (.c (.int .i64 0))), 0, []⟩, ⟨(some 19), .none, (.mov (.t 20)), 1, []⟩]) (.cond (.t 19) (.seq (.reg false [⟨(some 21), .none, (.mov (.t 0)), 0, []⟩, ⟨(some 22), .none, (.call 106 [(.t 21), (.c (.int .i64 5))]), 1, []⟩, ⟨(some 23), .none, (.call 56 [(.t 22)]), 2, []⟩, ⟨(some 4), .none, (.mov (.t 23)), 3, []⟩]) .ret) (.seq (.reg false [⟨(some 25), .none, (.bin .eql (.t 18) (.c (.int .i64 1))), 0, []⟩, ⟨(some 24), .none, (.mov (.t 25)), 1, []⟩]) (.cond (.t 24) (.seq (.reg false [⟨(some 26), .none, (.mov (.t 0)), 0, []⟩, ⟨(some 27), .none, (.call 69 [(.t 26), (.c (.int .i64 6))]), 1, []⟩, ⟨(some 28), .none, (.bin .add (.c (.int .i64 1)) (.t 27)), 2, []⟩, ⟨(some 29), .none, (.call 131 [(.t 28)]), 3, []⟩, ⟨(some 4), .none, (.mov (.t 29)), 4, []⟩]) .ret) (.seq (.reg false [⟨(some 31), .none, (.bin .eql (.t 18) (.c (.int .i64 2))), 0, []⟩, ⟨(some 30), .none, (.mov (.t 31)), 1, []⟩]) (.cond (.t 30) (.seq (.reg false [⟨(some 32), .none, (.mov (.t 0)), 0, []⟩, ⟨(some 33), .none, (.call 69 [(.t 32), (.c (.int .i64 6))]), 1, []⟩, ⟨(some 34), .none, (.bin .add (.c (.int .i64 1)) (.t 33)), 2, []⟩, ⟨(some 35), .none, (.mov (.t 0)), 3, []⟩, ⟨(some 36), .none, (.mov (.t 1)), 4, []⟩, ⟨(some 37), .none, (.bin .sub (.t 36) (.c (.int .i64 1))), 5, []⟩, ⟨(some 38), .none, (.call 125 [(.t 35), (.t 37)]), 6, []⟩, ⟨(some 39), .none, (.call 54 [(.t 34), (.t 38)]), 7, []⟩, ⟨(some 4), .none, (.mov (.t 39)), 8, []⟩]) .ret) .skip)))))))) (.seq (.reg false [⟨(some 40), .none, (.mkO 0 1 [(.string ⟨#[]⟩)] []), 0, []⟩, ⟨(some 6), .none, (.mov (.t 40)), 1, []⟩]) (.seq (.seq (.reg false [⟨(some 41), .none, (.mov (.t 0)), 0, []⟩, ⟨(some 42), .none, (.call 69 [(.t 41), (.c (.int .i64 4))]), 1, []⟩, ⟨(some 7), .none, (.mov (.t 42)), 2, []⟩]) (.block 1 (.loop (.seq (.seq (.reg false [⟨(some 43), .none, (.mov (.t 7)), 0, []⟩, ⟨(some 44), .none, (.bin .gtr (.t 43) (.c (.int .i64 0))), 1, []⟩]) (.cond (.t 44) .skip (.exit 1))) (.seq (.block 2 (.reg false [⟨(some 47), .none, (.mov (.t 6)), 0, []⟩, ⟨(some 48), .none, (.mov (.t 0)), 1, []⟩, ⟨(some 49), .none, (.mov (.t 1)), 2, []⟩, ⟨(some 50), .none, (.bin .sub (.t 49) (.c (.int .i64 1))), 3, []⟩, ⟨(some 51), .none, (.call 125 [(.t 48), (.t 50)]), 4, []⟩, ⟨(some 52), .none, (.mkV 1 1 [(.string ⟨#[]⟩)] [(0, (.t 51))]), 5, []⟩, ⟨(some 53), .none, (.app 1 16 (.t 47) (.t 52)), 6, []⟩, ⟨(some 6), .none, (.mov (.t 53)), 7, []⟩])) (.reg false [⟨(some 45), .none, (.mov (.t 7)), 0, []⟩, ⟨(some 46), .none, (.bin .sub (.t 45) (.c (.int .i64 1))), 1, []⟩, ⟨(some 7), .none, (.mov (.t 46)), 2, []⟩])))))) (.seq (.reg false [⟨(some 54), .none, (.mov (.t 6)), 0, []⟩, ⟨(some 55), .none, (.call 55 [(.t 54)]), 1, []⟩, ⟨(some 4), .none, (.mov (.t 55)), 2, []⟩]) .ret))))))), [(.t 4)]⟩
theorem k125 : EE.fns 125 = some c125 := by kernel_rfl
end Go.Proofs.Ytpdkgbamakileaa.Ev

/- A number put in its place; rows of numbers and texts that grow. -/
namespace Go.Proofs.Ytpdkgbamakileaa.Ev
set_option linter.all false
open Go
set_option maxRecDepth 4000

theorem own_newI {H : Hp} : SlI (H ++ [[]]) (.slice (some ⟨H.length, 0, some 1⟩) 0 (0 * 1)) [] := .inr ⟨H.length, 0, 0, [], rfl, by simp, by simp, by simp, by simp, fun i a hi => by simp at hi⟩
theorem Sl.oneI {m : Md} {N : Nat} {H : Hp} {v : Value} {l : List Int} (a : Int) (h : SlI H v l) (ho : OwnS N v) (hN : N ≤ H.length) (hw : ∀ id, N ≤ id → m.wr id = true) (hb : l.length ≤ 100000010) :
    ∃ v' H', (∀ (s : St) (x y : X), s.H = H → exv s.ρ x = some v → ex s.ρ y = .vs 1 [.int .i64 a] → appK m s 1 8 x y = some (.val v', { s with H := H' })) ∧ SlI H' v' (l ++ [a]) ∧ OwnS N v' ∧
      (∀ j, j < H.length → j ∉ idsOf v → H'[j]? = H[j]?) ∧ H.length ≤ H'.length ∧ (∀ j ∈ idsOf v', j ∈ idsOf v ∨ H.length ≤ j) ∧ ∀ H0 : Hp, H0.length ≤ N → H0 <+: H → H0 <+: H' := by
  obtain ⟨v', H', h1, h2⟩ := h.app (m := m) (n := 1) (bytes := 8) (l2 := [a]) (cs := [.int .i64 a]) ho hN hw (fun _ => rfl) (by simp) rfl (fun i b hi => by
    cases i with
    | zero => simp at hi; subst hi; rfl
    | succ i => simp at hi) (by unfold Ev.room; simp; omega) (by unfold Ev.room; simp; omega)
  exact ⟨v', H', fun s x y hH hx hy => h1 s x y hH hx (by rw [hy]; rfl), h2⟩
theorem Sl.oneS2 {m : Md} {N : Nat} {H : Hp} {v : Value} {l : List ByteArray} (a : ByteArray) (h : SlS H v l) (ho : OwnS N v) (hN : N ≤ H.length) (hw : ∀ id, N ≤ id → m.wr id = true) (hb : l.length ≤ 100000010) :
    ∃ v' H', (∀ (s : St) (x y : X), s.H = H → exv s.ρ x = some v → ex s.ρ y = .vs 1 [.string a] → appK m s 1 16 x y = some (.val v', { s with H := H' })) ∧ SlS H' v' (l ++ [a]) ∧ OwnS N v' ∧
      (∀ j, j < H.length → j ∉ idsOf v → H'[j]? = H[j]?) ∧ H.length ≤ H'.length ∧ (∀ j ∈ idsOf v', j ∈ idsOf v ∨ H.length ≤ j) ∧ ∀ H0 : Hp, H0.length ≤ N → H0 <+: H → H0 <+: H' := by
  obtain ⟨v', H', h1, h2⟩ := h.app (m := m) (n := 1) (bytes := 16) (l2 := [a]) (cs := [.string a]) ho hN hw (fun _ => rfl) (by simp) rfl (fun i b hi => by
    cases i with
    | zero => simp at hi; subst hi; rfl
    | succ i => simp at hi) (by unfold Ev.room; simp; omega) (by unfold Ev.room; simp; omega)
  exact ⟨v', H', fun s x y hH hx hy => h1 s x y hH hx (by rw [hy]; rfl), h2⟩
theorem Sl.aside {α : Type} {R : α → List Value → Prop} {esz : Nat} {H H' : Hp} {v w : Value} {l : List α} (h : Sl R esz H v l) (hd : ∀ j ∈ idsOf v, j ∉ idsOf w) (hf : ∀ j, j < H.length → j ∉ idsOf w → H'[j]? = H[j]?) : Sl R esz H' v l :=
  have hi := h.ids
  h.frame (fun _ _ _ h => h) fun i off e ln cap hv => hf i (hi i (by subst hv; simp [idsOf])) (hd i (by subst hv; simp [idsOf]))
theorem rsn_to {l k : List Int} (h : Asc k) (hm : ∀ x, x ∈ k ↔ x ∈ l) : k = rsn l := h.eq (rsn_asc l) fun x => (hm x).trans (rsn_mem l x).symm

theorem asc_drop_lt {l : List Int} (h : Asc l) {i : Nat} (hi : i < l.length) : (∀ y ∈ l.take i, y < l[i]) ∧ ∀ z ∈ l.drop (i + 1), l[i] < z := by
  have h := List.pairwise_iff_getElem.1 h
  refine ⟨fun y hy => ?_, fun z hz => ?_⟩
  · obtain ⟨j, hj, rfl⟩ := List.mem_iff_getElem.1 hy
    rw [List.length_take] at hj
    rw [List.getElem_take]
    exact h _ _ _ _ (by omega)
  · obtain ⟨j, hj, rfl⟩ := List.mem_iff_getElem.1 hz
    rw [List.length_drop] at hj
    rw [List.getElem_drop]
    exact h _ _ _ _ (by omega)

/-- What stands written while a number is put in its place. -/
structure PutI (l : List Int) (x : Int) (i : Nat) (b : Bool) (ol : List Int) : Prop where
  no : b = false → ol = l.take i ∧ ∀ y ∈ l.take i, y < x
  yes : b = true → Asc ol ∧ (∀ y, y ∈ ol ↔ y ∈ l.take i ∨ y = x) ∧ ∀ y ∈ ol, ∀ z ∈ l.drop i, y < z
  le : ol.length ≤ i + 1
theorem PutI.end_ {l : List Int} {x : Int} {b : Bool} {ol : List Int} (h : PutI l x l.length b ol) (ha : Asc l) : (b = true → ol = rsn (l ++ [x])) ∧ (b = false → ol ++ [x] = rsn (l ++ [x])) := by
  refine ⟨fun hb => ?_, fun hb => ?_⟩
  · obtain ⟨h1, h2, _⟩ := h.yes hb
    refine rsn_to h1 fun y => ?_
    rw [h2 y, List.take_length]
    simp
  · obtain ⟨h1, h2⟩ := h.no hb
    rw [List.take_length] at h1 h2
    subst h1
    refine rsn_to ?_ fun y => Iff.rfl
    exact List.pairwise_append.2 ⟨ha, by simp, fun y hy z hz => by rw [List.mem_singleton] at hz; subst hz; exact h2 y hy⟩
theorem PutI.put {l : List Int} {x : Int} {i : Nat} {ol : List Int} (h : PutI l x i false ol) (ha : Asc l) (hi : i < l.length) (hx : x < l[i]) : PutI l x (i + 1) true (ol ++ [x] ++ [l[i]]) := by
  obtain ⟨e, hb⟩ := h.no rfl
  subst e
  have ⟨a1, a2⟩ := asc_drop_lt ha hi
  refine ⟨fun h => (by cases h), fun _ => ⟨?_, fun y => ?_, fun y hy z hz => ?_⟩, ?_⟩
  · refine List.pairwise_append.2 ⟨List.pairwise_append.2 ⟨ha.sublist (List.take_sublist _ _), by simp, fun y hy z hz => ?_⟩, by simp, fun y hy z hz => ?_⟩
    · rw [List.mem_singleton] at hz; subst hz; exact hb y hy
    · rw [List.mem_singleton] at hz; subst hz
      rcases List.mem_append.1 hy with hy | hy
      · exact a1 y hy
      · rw [List.mem_singleton] at hy; subst hy; exact hx
  · rw [List.take_succ_eq_append_getElem hi]
    simp only [List.mem_append, List.mem_singleton]
    constructor
    · rintro ((h | h) | h)
      · exact .inl (.inl h)
      · exact .inr h
      · exact .inl (.inr h)
    · rintro ((h | h) | h)
      · exact .inl (.inl h)
      · exact .inr h
      · exact .inl (.inr h)
  · have hz2 := a2 z hz
    rcases List.mem_append.1 hy with hy | hy
    · rcases List.mem_append.1 hy with hy | hy
      · have := a1 y hy; omega
      · rw [List.mem_singleton] at hy; omega
    · rw [List.mem_singleton] at hy; omega
  · simp only [List.length_append, List.length_take, List.length_singleton]; omega
theorem PutI.go {l : List Int} {x : Int} {i : Nat} {b : Bool} {ol : List Int} (h : PutI l x i b ol) (ha : Asc l) (hi : i < l.length) (hx : b = true ∨ (¬ x < l[i] ∧ x ≠ l[i])) : PutI l x (i + 1) b (ol ++ [l[i]]) := by
  have ⟨a1, a2⟩ := asc_drop_lt ha hi
  have hd : l.drop i = l[i] :: l.drop (i + 1) := List.drop_eq_getElem_cons hi
  refine ⟨fun hb => ?_, fun hb => ?_, by have := h.le; simp only [List.length_append, List.length_singleton]; omega⟩
  · obtain ⟨e, hb2⟩ := h.no hb
    rw [List.take_succ_eq_append_getElem hi]
    refine ⟨by rw [e], fun y hy => ?_⟩
    rcases List.mem_append.1 hy with hy | hy
    · exact hb2 y hy
    · rw [List.mem_singleton] at hy
      rcases hx with hx | hx
      · rw [hb] at hx; cases hx
      · omega
  · obtain ⟨h1, h2, h3⟩ := h.yes hb
    rw [hd] at h3
    refine ⟨List.pairwise_append.2 ⟨h1, by simp, fun y hy z hz => by rw [List.mem_singleton] at hz; subst hz; exact h3 y hy _ List.mem_cons_self⟩, fun y => ?_, fun y hy z hz => ?_⟩
    · rw [List.take_succ_eq_append_getElem hi]
      simp only [List.mem_append, List.mem_singleton, h2 y]
      constructor
      · rintro ((h | h) | h)
        · exact .inl (.inl h)
        · exact .inr h
        · exact .inl (.inr h)
      · rintro ((h | h) | h)
        · exact .inl (.inl h)
        · exact .inr h
        · exact .inl (.inr h)
    · rcases List.mem_append.1 hy with hy | hy
      · exact h3 y hy z (List.mem_cons_of_mem _ hz)
      · rw [List.mem_singleton] at hy; subst hy; exact a2 z hz

theorem f123 {m : Md} {H : Hp} {v : Value} {l : List Int} {x : Int} (hl : SlI H v l) (ha : Asc l) (hle : l.length ≤ 100000000) (hw : Wr m H) : Fun EE m 123 [v, .int .i64 x] H fun r H' => H <+: H' ∧ SlI H' r (rsn (l ++ [x])) ∧ (r = v ∨ OwnS H.length r) := by
  refine fun_f rfl rfl k123 (by simp [c123]) ?_
  have a109 := fun {m draw s d ts Q} => callT_at (m := m) (draw := draw) (s := s) (d := d) (ts := ts) (Q := Q) (f109 (a := x) hl)
  have p0 : H <+: H ++ [[]] := List.prefix_append _ _
  have s0 : SlI (H ++ [[]]) (.slice (some ⟨H.length, 0, some 1⟩) 0 (0 * 1)) [] := own_newI
  have o0 : OwnS H.length (.slice (some ⟨H.length, 0, some 1⟩) 0 (0 * 1)) := .inr ⟨_, _, _, _, rfl, Nat.le_refl _⟩
  generalize hwv : Value.slice (some ⟨H.length, 0, some 1⟩) 0 (0 * 1) = wv0 at s0 o0
  simp only [go_sem, ↓reduceIte, Nat.reduceEqDiff, reduceCtorEq, Nat.reduceAdd, Nat.reduceLeDiff, Nat.reduceMul, c123, a109, hw]
  refine brT.intro (fun c0 => ?_) (fun c0 => ?_) <;> simp only [go_sem, ↓reduceIte, Nat.reduceEqDiff, reduceCtorEq, Nat.reduceAdd, Nat.reduceLeDiff, Nat.reduceMul, fillL, hwv]
  · have hm := of_decide_eq_true c0
    have : rsn (l ++ [x]) = l := (rsn_to ha fun y => by
      rw [List.mem_append, List.mem_singleton]
      exact ⟨fun h => .inl h, fun h => by rcases h with h | h; exact h; subst h; exact hm⟩).symm
    rw [this]
    exact ⟨List.prefix_refl _, hl, .inl trivial⟩
  have hx := of_decide_eq_false c0
  refine go_for l.length (fun i s => H <+: s.H ∧ s.ρ 0 = .val v ∧ s.ρ 1 = .val (.int .i64 x) ∧ s.ρ 4 = .val (.slice none 0 0) ∧ s.ρ 7 = .val (.int .i64 i) ∧ ∃ b wv ol, s.ρ 6 = .val (.bool b) ∧ s.ρ 5 = .val wv ∧ SlI s.H wv ol ∧ OwnS H.length wv ∧ PutI l x i b ol)
    (fun s => H <+: s.H ∧ s.ρ 1 = .val (.int .i64 x) ∧ s.ρ 4 = .val (.slice none 0 0) ∧ ∃ b wv ol, s.ρ 6 = .val (.bool b) ∧ s.ρ 5 = .val wv ∧ SlI s.H wv ol ∧ OwnS H.length wv ∧ PutI l x l.length b ol) ?_ ?_ ?_
  · exact ⟨p0, by simp [upd, ini], by simp [upd, ini], by simp [upd], by simp [upd], false, wv0, [], by simp [upd], by simp [upd], s0, o0, ⟨fun _ => ⟨by simp, by simp⟩, fun h => (by cases h), by simp⟩⟩
  · rintro i s hi ⟨kH, k0, k1, k4, k7, b, wv, ol, k6, k5, ks, ko, kp⟩
    have kv := hl.pre kH
    simp only [go_sem, ↓reduceIte, Nat.reduceEqDiff, reduceCtorEq, Nat.reduceAdd, Nat.reduceLeDiff, Nat.reduceMul, k0, k1, k4, k5, k6, k7, kv.len]
    cases q1 : decide ((i : Int) < (l.length : Int)) <;> simp only [go_sem, ↓reduceIte, Nat.reduceEqDiff, reduceCtorEq, Nat.reduceAdd, Nat.reduceLeDiff, Nat.reduceMul, k0, k1, k4, k5, k6, k7, q1]
    · have : i = l.length := by have := of_decide_eq_false q1; omega
      subst this
      exact ⟨kH, b, wv, ol, rfl, rfl, ks, ko, kp⟩
    have hil : i < l.length := by have := of_decide_eq_true q1; omega
    have w1 := wrap64 ((i : Int) + 1) (by omega) (by omega)
    obtain ⟨id, p, o, ho, hre, hia⟩ := kv.int (List.getElem?_eq_getElem hil)
    have hole := kp.le
    have hne : x ≠ l[i] := fun e => hx (by rw [e]; exact List.getElem_mem hil)
    cases b with
    | true =>
      obtain ⟨v3, H3, d1, d2, d3, d4, d5, d6, d7⟩ := ks.oneI (m := m) l[i] ko kH.length_le hw (by omega)
      simp only [go_sem, ↓reduceIte, Nat.reduceEqDiff, reduceCtorEq, Nat.reduceAdd, Nat.reduceLeDiff, Nat.reduceMul, k0, k1, k4, k5, k6, k7, hia, ho, hre]
      rw [d1]
      rotate_left
      · rfl
      · rfl
      · rfl
      simp only [go_sem, ↓reduceIte, Nat.reduceEqDiff, reduceCtorEq, Nat.reduceAdd, Nat.reduceLeDiff, Nat.reduceMul, k0, k1, k4, k5, k6, k7, w1]
      exact ⟨hil, d7 H (Nat.le_refl _) kH, by simp, true, v3, _, rfl, rfl, d2, d3, kp.go ha hil (.inl rfl)⟩
    | false =>
      simp only [go_sem, ↓reduceIte, Nat.reduceEqDiff, reduceCtorEq, Nat.reduceAdd, Nat.reduceLeDiff, Nat.reduceMul, k0, k1, k4, k5, k6, k7, hia, ho, hre]
      cases q2 : decide (x < l[i]) <;> simp only [go_sem, ↓reduceIte, Nat.reduceEqDiff, reduceCtorEq, Nat.reduceAdd, Nat.reduceLeDiff, Nat.reduceMul, k0, k1, k4, k5, k6, k7, q2]
      · obtain ⟨v3, H3, d1, d2, d3, d4, d5, d6, d7⟩ := ks.oneI (m := m) l[i] ko kH.length_le hw (by omega)
        simp only [go_sem, ↓reduceIte, Nat.reduceEqDiff, reduceCtorEq, Nat.reduceAdd, Nat.reduceLeDiff, Nat.reduceMul, k0, k1, k4, k5, k6, k7, hia, ho, hre]
        rw [d1]
        rotate_left
        · rfl
        · rfl
        · rfl
        simp only [go_sem, ↓reduceIte, Nat.reduceEqDiff, reduceCtorEq, Nat.reduceAdd, Nat.reduceLeDiff, Nat.reduceMul, k0, k1, k4, k5, k6, k7, w1]
        exact ⟨hil, d7 H (Nat.le_refl _) kH, by simp, false, v3, _, rfl, rfl, d2, d3, kp.go ha hil (.inr ⟨of_decide_eq_false q2, hne⟩)⟩
      · obtain ⟨v3, H3, d1, d2, d3, d4, d5, d6, d7⟩ := ks.oneI (m := m) x ko kH.length_le hw (by omega)
        have p3 := d7 H (Nat.le_refl _) kH
        rw [d1]
        rotate_left
        · rfl
        · rfl
        · rfl
        obtain ⟨id', p', o', ho', hre', hia'⟩ := (hl.pre p3).int (List.getElem?_eq_getElem hil)
        obtain ⟨v5, H5, g1, g2, g3, g4, g5, g6, g7⟩ := d2.oneI (m := m) l[i] d3 p3.length_le hw (by simp; omega)
        simp only [go_sem, ↓reduceIte, Nat.reduceEqDiff, reduceCtorEq, Nat.reduceAdd, Nat.reduceLeDiff, Nat.reduceMul, k0, k1, k4, k5, k6, k7, hia', ho', hre']
        rw [g1]
        rotate_left
        · rfl
        · rfl
        · rfl
        simp only [go_sem, ↓reduceIte, Nat.reduceEqDiff, reduceCtorEq, Nat.reduceAdd, Nat.reduceLeDiff, Nat.reduceMul, k0, k1, k4, k5, k6, k7, w1]
        exact ⟨hil, g7 H (Nat.le_refl _) p3, by simp, true, v5, _, rfl, rfl, g2, g3, kp.put ha hil (of_decide_eq_true q2)⟩
  · rintro s ⟨kH, k1, k4, b, wv, ol, k6, k5, ks, ko, kp⟩
    have hole := kp.le
    simp only [go_sem, ↓reduceIte, Nat.reduceEqDiff, reduceCtorEq, Nat.reduceAdd, Nat.reduceLeDiff, Nat.reduceMul, k1, k4, k5, k6]
    cases b with
    | true =>
      simp only [go_sem, ↓reduceIte, Nat.reduceEqDiff, reduceCtorEq, Nat.reduceAdd, Nat.reduceLeDiff, Nat.reduceMul, k1, k4, k5, k6]
      rw [← (kp.end_ ha).1 rfl]
      exact ⟨kH, ks, .inr ko⟩
    | false =>
      obtain ⟨v3, H3, d1, d2, d3, d4, d5, d6, d7⟩ := ks.oneI (m := m) x ko kH.length_le hw (by omega)
      simp only [go_sem, ↓reduceIte, Nat.reduceEqDiff, reduceCtorEq, Nat.reduceAdd, Nat.reduceLeDiff, Nat.reduceMul, k1, k4, k5, k6]
      rw [d1]
      rotate_left
      · rfl
      · rfl
      · rfl
      simp only [go_sem, ↓reduceIte, Nat.reduceEqDiff, reduceCtorEq, Nat.reduceAdd, Nat.reduceLeDiff, Nat.reduceMul, k1, k4, k5, k6]
      rw [← (kp.end_ ha).2 rfl]
      exact ⟨d7 H (Nat.le_refl _) kH, d2, .inr d3⟩

end Go.Proofs.Ytpdkgbamakileaa.Ev

/- All that is seen, gone through till nothing comes anew: plain. -/
namespace Go.Proofs.Ytpdkgbamakileaa.Ev
set_option linter.all false
open Go
set_option maxRecDepth 4000

theorem openB_some {s x : ByteArray} {k : Int} (h : openB s k = some x) : isB s 115 = true ∧ lkS s = k ∧ x = inS s := by
  unfold openB at h
  split at h
  · rename_i h2
    cases h
    exact ⟨isB_t.2 ⟨h2.1, h2.2.1⟩, h2.2.2, rfl⟩
  · cases h
theorem openB_in {s : ByteArray} (h : isB s 115 = true) : openB s (lkS s) = some (inS s) := by
  unfold openB
  have h2 := isB_t.1 h
  rw [if_pos ⟨h2.1, h2.2, rfl⟩]
  rfl
/-- What has been gone through: terms and keys. -/
structure CI (kt : List ByteArray) (kk : List Int) (T : List ByteArray) (K : List Int) : Prop where
  nd : T.Nodup
  gd : ∀ t ∈ T, tOk t = true ∧ (∃ u ∈ kt, Infx t u) ∧ Seen kt kk t
  kn : ∀ t ∈ kt, t ∈ T
  asc : Asc K
  kin : ∀ n ∈ kk, n ∈ K
  kgd : ∀ n ∈ K, (n ∈ kk ∨ keyB n ∈ T) ∧ isKey n = true
section
variable {kt : List ByteArray} {kk : List Int} {T : List ByteArray} {K : List Int}
theorem CI.lenT (h : CI kt kk T K) (hK : KnOk kt kk) : T.length ≤ capW := by
  have h1 : ∀ x ∈ T, x ∈ subs kt := fun x hx => by
    obtain ⟨_, ⟨u, hu, hi⟩, _⟩ := h.gd x hx
    obtain ⟨j, hj, e⟩ := List.mem_iff_getElem.1 hu
    have := (hK.2.2.1 j hj u (by rw [List.getElem?_eq_getElem hj, e])).1
    exact subs_mem hu (tOk_t.1 this).2.1 hi
  have h2 := nodup_len h.nd h1
  rw [subs_len] at h2
  have h4 := Nat.mul_le_mul_right (901 * 901) hK.1
  exact Nat.le_trans h2 h4
theorem Asc.nodup {l : List Int} (h : Asc l) : l.Nodup := by
  unfold List.Nodup
  exact List.Pairwise.imp (fun h e => by omega) h
theorem CI.lenK (h : CI kt kk T K) (hK : KnOk kt kk) : K.length ≤ 40 + capW := by
  have h1 : ∀ n ∈ K, n ∈ kk ++ T.map lkS := fun n hn => by
    obtain ⟨h2, h3⟩ := h.kgd n hn
    rcases h2 with h2 | h2
    · exact List.mem_append_left _ h2
    · exact List.mem_append_right _ (List.mem_map.2 ⟨_, h2, (keyB_ok h3).2.2.2⟩)
  have h2 := nodup_len h.asc.nodup h1
  rw [List.length_append, List.length_map] at h2
  have := h.lenT hK
  have := hK.2.1
  omega
theorem CI.size (h : CI kt kk T K) : ∀ t ∈ T, t.size ≤ 4611686018427387904 := fun t ht => by
  have := (tOk_t.1 (h.gd t ht).1).2.1
  omega
theorem CI.term {p : ByteArray} (h : CI kt kk T K) (h1 : tOk p = true) (h2 : ∃ u ∈ kt, Infx p u) (h3 : Seen kt kk p) (h4 : p ∉ T) : CI kt kk (T ++ [p]) K := by
  refine ⟨List.nodup_append.2 ⟨h.nd, by simp, fun a ha b hb e => ?_⟩, fun t ht => ?_, fun t ht => List.mem_append_left _ (h.kn t ht), h.asc, h.kin, fun n hn => ?_⟩
  · rw [List.mem_singleton] at hb
    subst hb; subst e
    exact h4 ha
  · rcases List.mem_append.1 ht with ht | ht
    · exact h.gd t ht
    · rw [List.mem_singleton] at ht
      subst ht
      exact ⟨h1, h2, h3⟩
  · obtain ⟨a, b⟩ := h.kgd n hn
    exact ⟨a.imp id fun a => List.mem_append_left _ a, b⟩
theorem CI.key {t : ByteArray} (h : CI kt kk T K) (ht : t ∈ T) (hb : isB t 107 = true) : CI kt kk T (rsn (K ++ [lkS t])) := by
  obtain ⟨k1, k2⟩ := key_of hb
  refine ⟨h.nd, h.gd, h.kn, rsn_asc _, fun n hn => ?_, fun n hn => ?_⟩
  · rw [rsn_mem]
    exact List.mem_append_left _ (h.kin n hn)
  · rw [rsn_mem] at hn
    rcases List.mem_append.1 hn with hn | hn
    · exact h.kgd n hn
    · rw [List.mem_singleton] at hn
      subst hn
      exact ⟨.inr (by rw [← k2]; exact ht), k1⟩
theorem CI.part {t p : ByteArray} (h : CI kt kk T K) (ht : t ∈ T) (hp : p ∈ (partsB t).getD []) (hn : p ∉ T) : CI kt kk (T ++ [p]) K := by
  have h108 : isB t 108 = true := by
    cases hb : isB t 108 with
    | true => rfl
    | false => rw [partsB_no hb] at hp; simp at hp
  obtain ⟨a, b⟩ := part_term h108 hp
  obtain ⟨_, ⟨u, hu, hi⟩, hs⟩ := h.gd t ht
  exact h.term a ⟨u, hu, b.trans hi⟩ (.part hs hp) hn
theorem CI.open_ {t x : ByteArray} {n : Int} (h : CI kt kk T K) (ht : t ∈ T) (hn : n ∈ K) (ho : openB t n = some x) (hx : x ∉ T) : CI kt kk (T ++ [x]) K := by
  obtain ⟨a, b, rfl⟩ := openB_some ho
  obtain ⟨c, d⟩ := inS_term a
  obtain ⟨_, ⟨u, hu, hi⟩, hs⟩ := h.gd t ht
  refine h.term c ⟨u, hu, d.trans hi⟩ ?_ hx
  subst b
  rcases (h.kgd _ hn).1 with h1 | h1
  · exact .opened hs a h1
  · exact .shown hs a (h.gd _ h1).2.2
theorem CI.beg (hK : KnOk kt kk) : CI kt kk kt kk := by
  refine ⟨?_, fun t ht => ⟨?_, ⟨t, ht, Infx.refl t⟩, .known ht⟩, fun t ht => ht, ?_, fun n hn => hn, fun n hn => ⟨.inl hn, hK.2.2.2.1 n hn⟩⟩
  · have := (begW_gd (kk := kk) hK).1
    rw [begW_tms] at this
    exact this
  · obtain ⟨j, hj⟩ := List.getElem?_of_mem ht
    exact (hK.2.2.1 j (List.getElem?_eq_some_iff.1 hj).1 t hj).1
  · have hn := hK.2.2.2.2
    refine List.pairwise_iff_getElem.2 fun i j hi hj hij => ?_
    have nb : ∀ i, (hi : i + 1 < kk.length) → kk[i]'(by omega) < kk[i + 1] := fun i hi => hn i hi _ _ (List.getElem?_eq_getElem (by omega)) (List.getElem?_eq_getElem hi)
    have key : ∀ (d i : Nat), (hj : i + 1 + d < kk.length) → kk[i]'(by omega) < kk[i + 1 + d] := by
      intro d
      induction d with
      | zero => intro i hj; exact nb i hj
      | succ d ih => intro i hj; exact Int.lt_trans (ih i (by omega)) (nb (i + 1 + d) hj)
    obtain ⟨d, rfl⟩ : ∃ d, j = i + 1 + d := ⟨j - (i + 1), by omega⟩
    exact key d i hj
/-- Nothing new comes of a term. -/
def Cl (T : List ByteArray) (K : List Int) (t : ByteArray) : Prop := (isB t 107 = true → lkS t ∈ K) ∧ (∀ p ∈ (partsB t).getD [], p ∈ T) ∧ ∀ n ∈ K, ∀ x, openB t n = some x → x ∈ T
theorem CI.all (h : CI kt kk T K) (hc : ∀ t ∈ T, Cl T K t) (t : ByteArray) : t ∈ T ↔ Seen kt kk t := by
  refine ⟨fun ht => (h.gd t ht).2.2, fun hs => ?_⟩
  induction hs with
  | known ht => exact h.kn _ ht
  | part _ hp ih => exact (hc _ ih).2.1 _ hp
  | @opened t _ hb hk ih => exact (hc _ ih).2.2 _ (h.kin _ hk) _ (openB_in hb)
  | @shown t _ hb _ ih ih2 =>
    obtain ⟨e1, e2, e3, e4⟩ := keyB_ok (lock_key hb)
    have h2 := (hc _ ih2).1 (isB_t.2 ⟨e1, e3⟩)
    rw [e4] at h2
    exact (hc _ ih).2.2 _ h2 _ (openB_in hb)
/-- Grown, or as it was. -/
structure Gw (T0 : List ByteArray) (K0 : List Int) (T : List ByteArray) (K : List Int) : Prop where
  t : T0 <+: T
  k : K = K0 ∨ K0.length < K.length
theorem Gw.refl (T : List ByteArray) (K : List Int) : Gw T K T K := ⟨List.prefix_refl _, .inl rfl⟩
theorem Gw.same {T0 : List ByteArray} {K0 : List Int} (h : Gw T0 K0 T K) (h1 : T.length = T0.length) (h2 : K.length = K0.length) : T = T0 ∧ K = K0 := by
  refine ⟨(h.t.eq_of_length_le (by omega)).symm, ?_⟩
  rcases h.k with h | h
  · exact h
  · omega
theorem Gw.term {T0 : List ByteArray} {K0 : List Int} (h : Gw T0 K0 T K) (p : ByteArray) : Gw T0 K0 (T ++ [p]) K := ⟨h.t.trans (List.prefix_append _ _), h.k⟩
theorem rsn_grow {K : List Int} (ha : Asc K) (x : Int) : rsn (K ++ [x]) = K ∧ x ∈ K ∨ K.length < (rsn (K ++ [x])).length := by
  by_cases hx : x ∈ K
  · exact .inl ⟨(rsn_to ha fun y => by
      rw [List.mem_append, List.mem_singleton]
      exact ⟨fun h => .inl h, fun h => by rcases h with h | h; exact h; subst h; exact hx⟩).symm, hx⟩
  · refine .inr ?_
    have := nodup_len (l := x :: K) (S := rsn (K ++ [x])) (List.nodup_cons.2 ⟨hx, ha.nodup⟩) fun y hy => by
      rw [rsn_mem]
      rcases List.mem_cons.1 hy with rfl | hy
      · simp
      · exact List.mem_append_left _ hy
    simp only [List.length_cons] at this
    omega
theorem Gw.key {T0 : List ByteArray} {K0 : List Int} (h : Gw T0 K0 T K) (ha : Asc K) (x : Int) : Gw T0 K0 T (rsn (K ++ [x])) := by
  refine ⟨h.t, ?_⟩
  rcases rsn_grow ha x with ⟨e, _⟩ | e
  · rw [e]; exact h.k
  · rcases h.k with h2 | h2
    · subst h2; exact .inr e
    · exact .inr (by omega)
end
end Go.Proofs.Ytpdkgbamakileaa.Ev

/- All that is seen, gone through: the reference's walk. -/
namespace Go.Proofs.Ytpdkgbamakileaa.Ev
set_option linter.all false
open Go
set_option maxRecDepth 4000

/-- Terms and keys in two rows of one's own. -/
structure TK (N : Nat) (H : Hp) (tv kv : Value) (T : List ByteArray) (K : List Int) : Prop where
  ts : SlS H tv T
  ks : SlI H kv K
  ot : OwnS N tv
  ok : OwnS N kv
  ap : ∀ j ∈ idsOf tv, j ∉ idsOf kv
theorem TK.pre {N : Nat} {H H' : Hp} {tv kv : Value} {T : List ByteArray} {K : List Int} (h : TK N H tv kv T K) (hp : H <+: H') : TK N H' tv kv T K := ⟨h.ts.pre hp, h.ks.pre hp, h.ot, h.ok, h.ap⟩
theorem TK.term {m : Md} {N : Nat} {H : Hp} {tv kv : Value} {T : List ByteArray} {K : List Int} (p : ByteArray) (h : TK N H tv kv T K) (hN : N ≤ H.length) (hw : ∀ id, N ≤ id → m.wr id = true) (hb : T.length ≤ 100000010) :
    ∃ v' H', (∀ (s : St) (x y : X), s.H = H → exv s.ρ x = some tv → ex s.ρ y = .vs 1 [.string p] → appK m s 1 16 x y = some (.val v', { s with H := H' })) ∧ TK N H' v' kv (T ++ [p]) K ∧ (∀ H0 : Hp, H0.length ≤ N → H0 <+: H → H0 <+: H') ∧
      ∀ {w : Value} {l : List ByteArray}, SlS H w l → (∀ j ∈ idsOf w, j ∉ idsOf tv) → SlS H' w l ∧ ∀ j ∈ idsOf w, j ∉ idsOf v' := by
  obtain ⟨v', H', a1, a2, a3, a4, a5, a6, a7⟩ := h.ts.oneS2 (m := m) p h.ot hN hw hb
  refine ⟨v', H', a1, ⟨a2, h.ks.aside (fun j hj hm => h.ap j hm hj) a4, a3, h.ok, fun j hj hm => ?_⟩, a7, fun {w l} hs hd => ⟨hs.aside hd a4, fun j hj hm => ?_⟩⟩
  · rcases a6 j hj with h2 | h2
    · exact h.ap j h2 hm
    · have := h.ks.ids j hm
      omega
  · rcases a6 j hm with h2 | h2
    · exact hd j hj h2
    · have := hs.ids j hj
      omega

def SeR (kt : List ByteArray) (kk : List Int) (H : Hp) (r : Value) (H' : Hp) : Prop := ∃ tv kv T, r = .tuple #[tv, kv] ∧ H <+: H' ∧ SlS H' tv T ∧ (∀ t, t ∈ T ↔ Seen kt kk t) ∧ ∀ t ∈ T, t.size ≤ 4611686018427387904
theorem f91 {m : Md} {H : Hp} {vt vk : Value} {kt : List ByteArray} {kk : List Int} (ht : SlS H vt kt) (hk : SlI H vk kk) (hK : KnOk kt kk) (hw : Wr m H) : Fun EE m 91 [.agg #[vt, vk]] H fun r H' => SeR kt kk H r H' := by
  refine fun_f rfl rfl k91 (by simp [c91]) ?_
  have hcap := capP
  have h60 := hK.1
  have h40 := hK.2.1
  have p0 : H <+: H ++ [[]] := List.prefix_append _ _
  have s0 : SlS (H ++ [[]]) (.slice (some ⟨H.length, 0, some 1⟩) 0 (0 * 1)) [] := own_newS
  have o0 : OwnS H.length (.slice (some ⟨H.length, 0, some 1⟩) 0 (0 * 1)) := .inr ⟨_, _, _, _, rfl, Nat.le_refl _⟩
  generalize hwv : Value.slice (some ⟨H.length, 0, some 1⟩) 0 (0 * 1) = wv0 at s0 o0
  obtain ⟨tv, H1, a1, a2, a3, a4, a5, a6, a7⟩ := s0.join (m := m) (N := H.length) (bytes := 16) (ht.pre p0) (fun _ => rfl) (by omega) o0 p0.length_le hw (by unfold Ev.room; simp; omega) (by unfold Ev.room; simp; omega)
  have p1 := a7 H (Nat.le_refl _) p0
  have a2 : SlS H1 tv kt := by simpa using a2
  have p2 : H1 <+: H1 ++ [[]] := List.prefix_append _ _
  have s1 : SlI (H1 ++ [[]]) (.slice (some ⟨H1.length, 0, some 1⟩) 0 (0 * 1)) [] := own_newI
  have o1 : OwnS H1.length (.slice (some ⟨H1.length, 0, some 1⟩) 0 (0 * 1)) := .inr ⟨_, _, _, _, rfl, Nat.le_refl _⟩
  generalize hwv2 : Value.slice (some ⟨H1.length, 0, some 1⟩) 0 (0 * 1) = wv1 at s1 o1
  obtain ⟨kv, H2, b1, b2, b3, b4, b5, b6, b7⟩ := s1.join (m := m) (N := H1.length) (bytes := 8) ((hk.pre p1).pre p2) (fun _ => rfl) (by omega) o1 p2.length_le (hw.pre p1) (by unfold Ev.room; simp; omega) (by unfold Ev.room; simp; omega)
  have p3 := b7 H1 (Nat.le_refl _) p2
  have b2 : SlI H2 kv kk := by simpa using b2
  have tk0 : TK H.length H2 tv kv kt kk := ⟨a2.pre p3, b2, a3, b3.mono p1.length_le, fun j hj hm => by have := a2.ids j hj; have := own_ge b3 j hm; omega⟩
  simp only [go_sem, ↓reduceIte, Nat.reduceEqDiff, reduceCtorEq, Nat.reduceAdd, Nat.reduceLeDiff, Nat.reduceMul, c91, ht.vc, hk.vc, fillL, hwv]
  rw [a1]
  rotate_left
  · rfl
  · rfl
  · rfl
  simp only [go_sem, ↓reduceIte, Nat.reduceEqDiff, reduceCtorEq, Nat.reduceAdd, Nat.reduceLeDiff, Nat.reduceMul, ht.vc, hk.vc, fillL, hwv2]
  rw [b1]
  rotate_left
  · rfl
  · rfl
  · rfl
  simp only [go_sem, ↓reduceIte, Nat.reduceEqDiff, reduceCtorEq, Nat.reduceAdd, Nat.reduceLeDiff, Nat.reduceMul]
  refine go_for 200000000 (fun r s => H <+: s.H ∧ ∃ tv kv T K, s.ρ 4 = .val tv ∧ s.ρ 5 = .val kv ∧ TK H.length s.H tv kv T K ∧ CI kt kk T K ∧ r ≤ T.length + K.length) (fun _ => False) ?_ ?_ ?_
  · exact ⟨p1.trans p3, tv, kv, kt, kk, by simp [upd], by simp [upd], tk0, CI.beg hK, Nat.zero_le _⟩
  · rintro r s hr ⟨kH, tv, kv, T0, K0, k4, k5, tk, ci, hle⟩
    have lT0 := ci.lenT hK
    have lK0 := ci.lenK hK
    simp only [go_sem, ↓reduceIte, Nat.reduceEqDiff, reduceCtorEq, Nat.reduceAdd, Nat.reduceLeDiff, Nat.reduceMul, k4, k5, tk.ts.len, tk.ks.len]
    refine go_for capW (fun i s => H <+: s.H ∧ s.ρ 6 = .val (.int .i64 T0.length) ∧ s.ρ 7 = .val (.int .i64 K0.length) ∧ s.ρ 8 = .val (.int .i64 i) ∧ ∃ tv kv T K, s.ρ 4 = .val tv ∧ s.ρ 5 = .val kv ∧ TK H.length s.H tv kv T K ∧ CI kt kk T K ∧ Gw T0 K0 T K ∧ i ≤ T.length ∧ (T.length = T0.length → K.length = K0.length → ∀ j t, j < i → T0[j]? = some t → Cl T0 K0 t))
      (fun s => H <+: s.H ∧ s.ρ 6 = .val (.int .i64 T0.length) ∧ s.ρ 7 = .val (.int .i64 K0.length) ∧ ∃ tv kv T K, s.ρ 4 = .val tv ∧ s.ρ 5 = .val kv ∧ TK H.length s.H tv kv T K ∧ CI kt kk T K ∧ Gw T0 K0 T K ∧ (T.length = T0.length → K.length = K0.length → ∀ t ∈ T0, Cl T0 K0 t)) ?_ ?_ ?_
    · exact ⟨kH, by simp [upd], by simp [upd], by simp [upd], tv, kv, T0, K0, by simp [upd, k4], by simp [upd, k5], tk, ci, Gw.refl _ _, Nat.zero_le _, fun _ _ j t hj => by omega⟩
    · clear k4 k5 tk ci kH
      rintro i s hi ⟨kH, k6, k7, k8, tv, kv, T, K, k4, k5, tk, ci, gw, hiT, hdone⟩
      have lT := ci.lenT hK
      have lK := ci.lenK hK
      have kw := hw.pre kH
      simp only [go_sem, ↓reduceIte, Nat.reduceEqDiff, reduceCtorEq, Nat.reduceAdd, Nat.reduceLeDiff, Nat.reduceMul, k4, k5, k6, k7, k8, tk.ts.len]
      cases q1 : decide ((i : Int) < (T.length : Int)) <;> simp only [go_sem, ↓reduceIte, Nat.reduceEqDiff, reduceCtorEq, Nat.reduceAdd, Nat.reduceLeDiff, Nat.reduceMul, k4, k5, k6, k7, k8, q1]
      · have : i = T.length := by have := of_decide_eq_false q1; omega
        subst this
        refine ⟨kH, tv, kv, T, K, rfl, rfl, tk, ci, gw, fun h1 h2 t ht => ?_⟩
        obtain ⟨j, hj⟩ := List.getElem?_of_mem ht
        exact hdone h1 h2 j t (by have := (List.getElem?_eq_some_iff.1 hj).1; omega) hj
      have hil : i < T.length := by have := of_decide_eq_true q1; omega
      have w1 := wrap64 ((i : Int) + 1) (by omega) (by omega)
      obtain ⟨t, hti⟩ : ∃ t, T[i]? = some t := ⟨_, List.getElem?_eq_getElem hil⟩
      have htm := List.mem_of_getElem? hti
      have hz := ci.size t htm
      obtain ⟨id, p, o, ho, hre, hia⟩ := tk.ts.str hti
      have a110 := fun {m draw s d ts Q} => callT_at (m := m) (draw := draw) (s := s) (d := d) (ts := ts) (Q := Q) (f110 (H := s.H) (s := t) hz)
      simp only [go_sem, ↓reduceIte, Nat.reduceEqDiff, reduceCtorEq, Nat.reduceAdd, Nat.reduceLeDiff, Nat.reduceMul, k4, k5, k6, k7, k8, hia, ho, hre]
      refine callT_to (fun m' h => (f110 (H := s.H) (s := t) hz) m' h) rfl kw fun r1 H1 ⟨e1, e2⟩ => ?_
      subst e1; subst e2
      simp only [go_sem, ↓reduceIte, Nat.reduceEqDiff, reduceCtorEq, Nat.reduceAdd, Nat.reduceLeDiff, Nat.reduceMul, k4, k5, k6, k7, k8, List.getElem?_toArray, ofV]
      -- the keys
      refine brT_join (fun s1 => H <+: s1.H ∧ s1.ρ 4 = .val tv ∧ s1.ρ 6 = .val (.int .i64 T0.length) ∧ s1.ρ 7 = .val (.int .i64 K0.length) ∧ s1.ρ 8 = .val (.int .i64 i) ∧ ∃ kv K, s1.ρ 5 = .val kv ∧ TK H.length s1.H tv kv T K ∧ CI kt kk T K ∧ Gw T0 K0 T K ∧ (T.length = T0.length → K.length = K0.length → (∀ j t, j < i → T0[j]? = some t → Cl T0 K0 t) ∧ (isB t 107 = true → lkS t ∈ K0))) (fun hb => ?_) (fun hb => ?_) ?_
      · have hif : (if isB t 107 = true then lkS t else 0) = lkS t := if_pos hb
        have hK2 : K.length ≤ 100000000 := by omega
        simp only [go_sem, ↓reduceIte, Nat.reduceEqDiff, reduceCtorEq, Nat.reduceAdd, Nat.reduceLeDiff, Nat.reduceMul, k4, k5, k6, k7, k8, hif]
        refine callT_to (fun m' h => f123 tk.ks ci.asc hK2 h) rfl kw fun r2 H2 ⟨p2, s2, o2⟩ => ?_
        have n0 := kH.length_le
        simp only [go_sem, ↓reduceIte, Nat.reduceEqDiff, reduceCtorEq, Nat.reduceAdd, Nat.reduceLeDiff, Nat.reduceMul, k4, k5, k6, k7, k8]
        have o2' : OwnS H.length r2 ∧ ∀ j ∈ idsOf tv, j ∉ idsOf r2 := by
          rcases o2 with rfl | o2
          · exact ⟨tk.ok, tk.ap⟩
          · exact ⟨o2.mono n0, fun j hj hm => by have := tk.ts.ids j hj; have := own_ge o2 j hm; omega⟩
        refine ⟨kH.trans p2, r2, _, rfl, ⟨tk.ts.pre p2, s2, tk.ot, o2'.1, o2'.2⟩, ci.key htm hb, gw.key ci.asc _, fun h1 h2 => ?_⟩
        have hs := (gw.key ci.asc (lkS t)).same h1 h2
        have hKl : K.length = K0.length := by
          rcases rsn_grow ci.asc (lkS t) with ⟨e, _⟩ | e
          · rw [e] at h2; exact h2
          · rcases gw.k with g | g
            · rw [g]
            · omega
        refine ⟨hdone h1 hKl, fun _ => ?_⟩
        rw [← hs.2, rsn_mem]
        simp
      · simp only [go_sem, ↓reduceIte, Nat.reduceEqDiff, reduceCtorEq, Nat.reduceAdd, Nat.reduceLeDiff, Nat.reduceMul, k4, k5, k6, k7, k8]
        exact ⟨kH, kv, K, rfl, tk, ci, gw, fun h1 h2 => ⟨hdone h1 h2, fun h => by rw [hb] at h; cases h⟩⟩
      · clear tk ci gw hdone k4 k5 k6 k7 k8 hia ho hre lK
        have kH0 := kH
        clear kH kw
        rintro s1 ⟨kH, k4, k6, k7, k8, kv, K, k5, tk, ci, gw, hdone⟩
        have lK := ci.lenK hK
        have kw := hw.pre kH
        obtain ⟨id, p, o, ho, hre, hia⟩ := tk.ts.str hti
        simp only [go_sem, ↓reduceIte, Nat.reduceEqDiff, reduceCtorEq, Nat.reduceAdd, Nat.reduceLeDiff, Nat.reduceMul, k4, k5, k6, k7, k8, hia, ho, hre]
        refine callT_to (fun m' h => f93 (s := t) hz h) rfl kw fun r3 H3 ⟨pv, e3, p3, sp, op⟩ => ?_
        subst e3
        have tk3 := tk.pre p3
        have op : OwnS s1.H.length pv := op
        have dP : ∀ j ∈ idsOf pv, j ∉ idsOf tv := fun j hj hm => by have := tk.ts.ids j hm; have := own_ge op j hj; omega
        generalize hps : (partsB t).getD [] = ps at sp
        have n3 : H <+: H3 := kH.trans p3
        have hroomP := sp.room
        simp only [go_sem, ↓reduceIte, Nat.reduceEqDiff, reduceCtorEq, Nat.reduceAdd, Nat.reduceLeDiff, Nat.reduceMul, k4, k5, k6, k7, k8, List.getElem?_toArray, ofV]
        refine go_for ps.length (fun j s2 => H <+: s2.H ∧ s2.ρ 5 = .val kv ∧ s2.ρ 6 = .val (.int .i64 T0.length) ∧ s2.ρ 7 = .val (.int .i64 K0.length) ∧ s2.ρ 8 = .val (.int .i64 i) ∧ s2.ρ 11 = .val pv ∧ s2.ρ 13 = .val (.int .i64 j) ∧ SlS s2.H pv ps ∧ ∃ tv T, s2.ρ 4 = .val tv ∧ TK H.length s2.H tv kv T K ∧ CI kt kk T K ∧ Gw T0 K0 T K ∧ T[i]? = some t ∧ (∀ j ∈ idsOf pv, j ∉ idsOf tv) ∧ (T.length = T0.length → K.length = K0.length → (∀ j t, j < i → T0[j]? = some t → Cl T0 K0 t) ∧ (isB t 107 = true → lkS t ∈ K0) ∧ ∀ p ∈ ps.take j, p ∈ T0))
          (fun s2 => H <+: s2.H ∧ s2.ρ 5 = .val kv ∧ s2.ρ 6 = .val (.int .i64 T0.length) ∧ s2.ρ 7 = .val (.int .i64 K0.length) ∧ s2.ρ 8 = .val (.int .i64 i) ∧ ∃ tv T, s2.ρ 4 = .val tv ∧ TK H.length s2.H tv kv T K ∧ CI kt kk T K ∧ Gw T0 K0 T K ∧ T[i]? = some t ∧ (T.length = T0.length → K.length = K0.length → (∀ j t, j < i → T0[j]? = some t → Cl T0 K0 t) ∧ (isB t 107 = true → lkS t ∈ K0) ∧ ∀ p ∈ ps, p ∈ T0)) ?_ ?_ ?_
        · exact ⟨n3, by simp [upd, k5], by simp [upd, k6], by simp [upd, k7], by simp [upd, k8], by simp [upd], by simp [upd], sp, tv, T, by simp [upd, k4], tk3, ci, gw, hti, dP, fun h1 h2 => ⟨(hdone h1 h2).1, (hdone h1 h2).2, by simp⟩⟩
        · rintro j s2 hj ⟨sH, m5, m6, m7, m8, m11, m13, sps, tv, T, m4, tk, ci, gw, hti, dP, hdone⟩
          have lT := ci.lenT hK
          simp only [go_sem, ↓reduceIte, Nat.reduceEqDiff, reduceCtorEq, Nat.reduceAdd, Nat.reduceLeDiff, Nat.reduceMul, m4, m5, m6, m7, m8, m11, m13, sps.len]
          cases q2 : decide ((j : Int) < (ps.length : Int)) <;> simp only [go_sem, ↓reduceIte, Nat.reduceEqDiff, reduceCtorEq, Nat.reduceAdd, Nat.reduceLeDiff, Nat.reduceMul, m4, m5, m6, m7, m8, m11, m13, q2]
          · have : j = ps.length := by have := of_decide_eq_false q2; omega
            subst this
            rw [List.take_length] at hdone
            exact ⟨sH, tv, T, rfl, tk, ci, gw, hti, hdone⟩
          have hjl : j < ps.length := by have := of_decide_eq_true q2; omega
          have w2 := wrap64 ((j : Int) + 1) (by omega) (by omega)
          obtain ⟨x, hx⟩ : ∃ x, ps[j]? = some x := ⟨_, List.getElem?_eq_getElem hjl⟩
          have hxm : x ∈ (partsB t).getD [] := by rw [hps]; exact List.mem_of_getElem? hx
          have htk : ps.take (j + 1) = ps.take j ++ [x] := by rw [List.take_succ_eq_append_getElem hjl]; congr; exact (List.getElem?_eq_some_iff.1 hx).2
          obtain ⟨id2, p2, o2, ho2, hre2, hia2⟩ := sps.str hx
          have a89 := fun {m draw s d ts Q} => callT_at (m := m) (draw := draw) (s := s) (d := d) (ts := ts) (Q := Q) (f89 (a := x) tk.ts)
          simp only [go_sem, ↓reduceIte, Nat.reduceEqDiff, reduceCtorEq, Nat.reduceAdd, Nat.reduceLeDiff, Nat.reduceMul, m4, m5, m6, m7, m8, m11, m13, hia2, ho2, hre2, a89, hw.pre sH]
          cases q3 : memS x T <;> simp only [go_sem, ↓reduceIte, Nat.reduceEqDiff, reduceCtorEq, Nat.reduceAdd, Nat.reduceLeDiff, Nat.reduceMul, m4, m5, m6, m7, m8, m11, m13, hia2, ho2, hre2, w2]
          · have hn := memS_f.1 q3
            obtain ⟨v3, H4, c1, c2, c3, c4⟩ := tk.term (m := m) x sH.length_le hw (by omega)
            rw [c1]
            rotate_left
            · rfl
            · rfl
            · rfl
            simp only [go_sem, ↓reduceIte, Nat.reduceEqDiff, reduceCtorEq, Nat.reduceAdd, Nat.reduceLeDiff, Nat.reduceMul, m4, m5, m6, m7, m8, m11, m13, w2]
            obtain ⟨d1, d2⟩ := c4 sps dP
            refine ⟨hjl, c3 H (Nat.le_refl _) sH, by simp, d1, v3, _, rfl, c2, ci.part (List.mem_of_getElem? hti) hxm hn, gw.term x, by rw [List.getElem?_append_left (List.getElem?_eq_some_iff.1 hti).1]; exact hti, d2, fun h1 => ?_⟩
            have := gw.t.length_le
            rw [List.length_append, List.length_singleton] at h1
            omega
          · have hn := memS_t.1 q3
            refine ⟨hjl, sH, by simp, sps, tv, T, rfl, tk, ci, gw, hti, dP, fun h1 h2 => ⟨(hdone h1 h2).1, (hdone h1 h2).2.1, fun y hy => ?_⟩⟩
            rw [htk] at hy
            rcases List.mem_append.1 hy with hy | hy
            · exact (hdone h1 h2).2.2 y hy
            · rw [List.mem_singleton] at hy
              subst hy
              rw [← (gw.same h1 h2).1]
              exact hn
        · clear tk tk3 ci gw hdone k4 k5 k6 k7 k8 hia ho hre sp dP hti htm hiT hil lT
          rintro s2 ⟨sH, k5, k6, k7, k8, tv, T, k4, tk, ci, gw, hti, hdone⟩
          simp only [go_sem, ↓reduceIte, Nat.reduceEqDiff, reduceCtorEq, Nat.reduceAdd, Nat.reduceLeDiff, Nat.reduceMul, k4, k5, k6, k7, k8]
          refine go_for K.length (fun j s3 => H <+: s3.H ∧ s3.ρ 5 = .val kv ∧ s3.ρ 6 = .val (.int .i64 T0.length) ∧ s3.ρ 7 = .val (.int .i64 K0.length) ∧ s3.ρ 8 = .val (.int .i64 i) ∧ s3.ρ 14 = .val (.int .i64 j) ∧ ∃ tv T, s3.ρ 4 = .val tv ∧ TK H.length s3.H tv kv T K ∧ CI kt kk T K ∧ Gw T0 K0 T K ∧ T[i]? = some t ∧ (T.length = T0.length → K.length = K0.length → (∀ j t, j < i → T0[j]? = some t → Cl T0 K0 t) ∧ (isB t 107 = true → lkS t ∈ K0) ∧ (∀ p ∈ ps, p ∈ T0) ∧ ∀ n ∈ K.take j, ∀ x, openB t n = some x → x ∈ T0))
            (fun s3 => H <+: s3.H ∧ s3.ρ 5 = .val kv ∧ s3.ρ 6 = .val (.int .i64 T0.length) ∧ s3.ρ 7 = .val (.int .i64 K0.length) ∧ s3.ρ 8 = .val (.int .i64 i) ∧ ∃ tv T, s3.ρ 4 = .val tv ∧ TK H.length s3.H tv kv T K ∧ CI kt kk T K ∧ Gw T0 K0 T K ∧ T[i]? = some t ∧ (T.length = T0.length → K.length = K0.length → (∀ j t, j < i → T0[j]? = some t → Cl T0 K0 t) ∧ (isB t 107 = true → lkS t ∈ K0) ∧ (∀ p ∈ ps, p ∈ T0) ∧ ∀ n ∈ K, ∀ x, openB t n = some x → x ∈ T0)) ?_ ?_ ?_
          · exact ⟨sH, by simp [upd, k5], by simp [upd, k6], by simp [upd, k7], by simp [upd, k8], by simp [upd], tv, T, by simp [upd, k4], tk, ci, gw, hti, fun h1 h2 => ⟨(hdone h1 h2).1, (hdone h1 h2).2.1, (hdone h1 h2).2.2, by simp⟩⟩
          · clear tk ci gw hdone k4 k5 k6 k7 k8 hti sH
            rintro j s3 hj ⟨sH, m5, m6, m7, m8, m14, tv, T, m4, tk, ci, gw, hti, hdone⟩
            have lT := ci.lenT hK
            simp only [go_sem, ↓reduceIte, Nat.reduceEqDiff, reduceCtorEq, Nat.reduceAdd, Nat.reduceLeDiff, Nat.reduceMul, m4, m5, m6, m7, m8, m14, tk.ks.len]
            cases q2 : decide ((j : Int) < (K.length : Int)) <;> simp only [go_sem, ↓reduceIte, Nat.reduceEqDiff, reduceCtorEq, Nat.reduceAdd, Nat.reduceLeDiff, Nat.reduceMul, m4, m5, m6, m7, m8, m14, q2]
            · have : j = K.length := by have := of_decide_eq_false q2; omega
              subst this
              rw [List.take_length] at hdone
              exact ⟨sH, tv, T, rfl, tk, ci, gw, hti, hdone⟩
            have hjl : j < K.length := by have := of_decide_eq_true q2; omega
            have w2 := wrap64 ((j : Int) + 1) (by omega) (by omega)
            obtain ⟨n, hn⟩ : ∃ n, K[j]? = some n := ⟨_, List.getElem?_eq_getElem hjl⟩
            have hnm := List.mem_of_getElem? hn
            have htk : K.take (j + 1) = K.take j ++ [n] := by rw [List.take_succ_eq_append_getElem hjl]; congr; exact (List.getElem?_eq_some_iff.1 hn).2
            obtain ⟨id2, p2, o2, ho2, hre2, hia2⟩ := tk.ts.str hti
            obtain ⟨id3, p3, o3, ho3, hre3, hia3⟩ := tk.ks.int hn
            have a100 := fun {m draw s' d ts Q} => callT_at (m := m) (draw := draw) (s := s') (d := d) (ts := ts) (Q := Q) (f100 (H := s3.H) (k := n) hz)
            have kw := hw.pre sH
            have grow : ∀ {T' : List ByteArray} {y : ByteArray}, (T' ++ [y]).length = T0.length → T0 <+: T' → False := fun {T' y} h1 h2 => by
              have := h2.length_le
              rw [List.length_append, List.length_singleton] at h1
              omega
            refine go_draw ?_
            simp only [go_sem, ↓reduceIte, Nat.reduceEqDiff, reduceCtorEq, Nat.reduceAdd, Nat.reduceLeDiff, Nat.reduceMul, m4, m5, m6, m7, m8, m14, hia2, ho2, hre2, hia3, ho3, hre3, a100, kw]
            cases ho : openB t n with
            | none =>
              unfold opV
              simp only [go_sem, ↓reduceIte, Nat.reduceEqDiff, reduceCtorEq, Nat.reduceAdd, Nat.reduceLeDiff, Nat.reduceMul, m4, m5, m6, m7, m8, m14, List.getElem?_toArray, ofV]
              refine ⟨by rfl, ?_⟩
              simp only [go_sem, ↓reduceIte, Nat.reduceEqDiff, reduceCtorEq, Nat.reduceAdd, Nat.reduceLeDiff, Nat.reduceMul, m4, m5, m6, m7, m8, m14, w2]
              refine ⟨hjl, sH, by simp, tv, T, rfl, tk, ci, gw, hti, fun h1 h2 => ⟨(hdone h1 h2).1, (hdone h1 h2).2.1, (hdone h1 h2).2.2.1, fun n' hn' x hx => ?_⟩⟩
              rw [htk] at hn'
              rcases List.mem_append.1 hn' with hn' | hn'
              · exact (hdone h1 h2).2.2.2 n' hn' x hx
              · rw [List.mem_singleton] at hn'
                subst hn'
                rw [ho] at hx
                cases hx
            | some x =>
              unfold opV
              have a89 := fun {m draw s' d ts Q} => callT_at (m := m) (draw := draw) (s := s') (d := d) (ts := ts) (Q := Q) (f89 (a := x) tk.ts)
              simp only [go_sem, ↓reduceIte, Nat.reduceEqDiff, reduceCtorEq, Nat.reduceAdd, Nat.reduceLeDiff, Nat.reduceMul, m4, m5, m6, m7, m8, m14, List.getElem?_toArray, ofV]
              refine ⟨by rfl, ?_⟩
              simp only [go_sem, ↓reduceIte, Nat.reduceEqDiff, reduceCtorEq, Nat.reduceAdd, Nat.reduceLeDiff, Nat.reduceMul, m4, m5, m6, m7, m8, m14, a89, kw]
              cases q3 : memS x T <;> simp only [go_sem, ↓reduceIte, Nat.reduceEqDiff, reduceCtorEq, Nat.reduceAdd, Nat.reduceLeDiff, Nat.reduceMul, m4, m5, m6, m7, m8, m14, w2]
              · have hnx := memS_f.1 q3
                obtain ⟨v3, H4, c1, c2, c3, c4⟩ := tk.term (m := m) x sH.length_le hw (by omega)
                rw [c1]
                rotate_left
                · rfl
                · rfl
                · rfl
                simp only [go_sem, ↓reduceIte, Nat.reduceEqDiff, reduceCtorEq, Nat.reduceAdd, Nat.reduceLeDiff, Nat.reduceMul, m4, m5, m6, m7, m8, m14, w2]
                exact ⟨hjl, c3 H (Nat.le_refl _) sH, by simp, v3, _, rfl, c2, ci.open_ (List.mem_of_getElem? hti) hnm ho hnx, gw.term x, by rw [List.getElem?_append_left (List.getElem?_eq_some_iff.1 hti).1]; exact hti, fun h1 => (grow h1 gw.t).elim⟩
              · have hnx := memS_t.1 q3
                refine ⟨hjl, sH, by simp, tv, T, rfl, tk, ci, gw, hti, fun h1 h2 => ⟨(hdone h1 h2).1, (hdone h1 h2).2.1, (hdone h1 h2).2.2.1, fun n' hn' y hy => ?_⟩⟩
                rw [htk] at hn'
                rcases List.mem_append.1 hn' with hn' | hn'
                · exact (hdone h1 h2).2.2.2 n' hn' y hy
                · rw [List.mem_singleton] at hn'
                  subst hn'
                  rw [ho] at hy
                  cases hy
                  rw [← (gw.same h1 h2).1]
                  exact hnx
          · clear tk ci gw hdone k4 k5 k6 k7 k8 hti sH
            rintro s3 ⟨sH, k5, k6, k7, k8, tv, T, k4, tk, ci, gw, hti, hdone⟩
            have lT := ci.lenT hK
            have hil := (List.getElem?_eq_some_iff.1 hti).1
            simp only [go_sem, ↓reduceIte, Nat.reduceEqDiff, reduceCtorEq, Nat.reduceAdd, Nat.reduceLeDiff, Nat.reduceMul, k4, k5, k6, k7, k8, w1]
            refine ⟨by omega, sH, by simp, tv, kv, T, K, rfl, rfl, tk, ci, gw, by omega, fun h1 h2 j u hj hu => ?_⟩
            obtain ⟨d1, d2, d3, d4⟩ := hdone h1 h2
            by_cases e : j = i
            · subst e
              obtain ⟨e1, e2⟩ := gw.same h1 h2
              rw [e1, hu] at hti
              cases hti
              rw [e2] at d4
              exact ⟨d2, by rw [hps]; exact d3, d4⟩
            · exact d1 j u (by omega) hu
    · clear k4 k5 tk ci kH
      rintro s ⟨kH, k6, k7, tv, kv, T, K, k4, k5, tk, ci, gw, hdone⟩
      have lT := ci.lenT hK
      have lK := ci.lenK hK
      have g1 := gw.t.length_le
      simp only [go_sem, ↓reduceIte, Nat.reduceEqDiff, reduceCtorEq, Nat.reduceAdd, Nat.reduceLeDiff, Nat.reduceMul, k4, k5, k6, k7, tk.ts.len]
      have hsz : ∀ t ∈ T, t.size ≤ 4611686018427387904 := ci.size
      cases q1 : decide ((T.length : Int) = (T0.length : Int)) <;> simp only [go_sem, ↓reduceIte, Nat.reduceEqDiff, reduceCtorEq, Nat.reduceAdd, Nat.reduceLeDiff, Nat.reduceMul, k4, k5, k6, k7, q1, tk.ks.len]
      · have := of_decide_eq_false q1
        refine ⟨by omega, kH, tv, kv, T, K, rfl, rfl, tk, ci, ?_⟩
        rcases gw.k with g | g
        · rw [g]; omega
        · omega
      have e1 : T.length = T0.length := by have := of_decide_eq_true q1; omega
      cases q2 : decide ((K.length : Int) = (K0.length : Int)) <;> simp only [go_sem, ↓reduceIte, Nat.reduceEqDiff, reduceCtorEq, Nat.reduceAdd, Nat.reduceLeDiff, Nat.reduceMul, k4, k5, k6, k7, q2]
      · have := of_decide_eq_false q2
        refine ⟨by omega, kH, tv, kv, T, K, rfl, rfl, tk, ci, ?_⟩
        rcases gw.k with g | g
        · subst g; omega
        · omega
      have e2 : K.length = K0.length := by have := of_decide_eq_true q2; omega
      obtain ⟨rfl, rfl⟩ := gw.same e1 e2
      exact ⟨tv, kv, T, rfl, kH, tk.ts, ci.all (hdone e1 e2), hsz⟩
  · intro s h
    exact h.elim

open Classical in
noncomputable def seesB (kt : List ByteArray) (kk : List Int) (t : ByteArray) : Bool := decide (knB kt kk = true ∧ Seen kt kk t)
theorem f50 {m : Md} {H : Hp} {vt vk : Value} {kt : List ByteArray} {kk : List Int} {t : ByteArray} (ht : SlS H vt kt) (hk : SlI H vk kk) (hz : ∀ x ∈ kt, x.size ≤ 4611686018427387904) (hw : Wr m H) :
    Fun EE m 50 [.agg #[vt, vk], .string t] H fun r H' => r = .bool (seesB kt kk t) ∧ H <+: H' := by
  refine fun_f rfl rfl k50 (by simp [c50]) ?_
  have a49 := fun {m draw s d ts Q} => callT_at (m := m) (draw := draw) (s := s) (d := d) (ts := ts) (Q := Q) (f49 ht hk hz)
  simp only [go_sem, ↓reduceIte, Nat.reduceEqDiff, reduceCtorEq, Nat.reduceAdd, Nat.reduceLeDiff, Nat.reduceMul, c50, ht.vc, hk.vc, a49, hw]
  unfold seesB
  cases hkn : knB kt kk <;> simp only [go_sem, ↓reduceIte, Nat.reduceEqDiff, reduceCtorEq, Nat.reduceAdd, Nat.reduceLeDiff, Nat.reduceMul, ht.vc, hk.vc]
  · exact ⟨by simp, List.prefix_refl _⟩
  refine callT_to (fun m' h => f91 ht hk (kn_t.1 hkn) h) rfl hw fun r H1 ⟨tv, kv, T, e, p1, sT, hT, hzT⟩ => ?_
  subst e
  have a89 := fun {m draw s d ts Q} => callT_at (m := m) (draw := draw) (s := s) (d := d) (ts := ts) (Q := Q) (f89 (a := t) sT)
  simp only [go_sem, ↓reduceIte, Nat.reduceEqDiff, reduceCtorEq, Nat.reduceAdd, Nat.reduceLeDiff, Nat.reduceMul, List.getElem?_toArray, ofV, a89, hw.pre p1]
  refine ⟨?_, p1⟩
  unfold memS
  simp [hT]
end Go.Proofs.Ytpdkgbamakileaa.Ev

/- A row of tasks cut in two: what holds where the front ends, and what is left from there. -/
namespace Go.Proofs.Ytpdkgbamakileaa.Ev
set_option linter.all false
open Go

section
variable {E : Env} {m : Md}
theorem wpD3_mono {ops : List CO} : ∀ {os : List CO} {s : St} {acc : List (List Nat × Bool)} {P P' : St → Prop}, wpD3 E m ops os s acc P → (∀ s', P s' → P' s') → wpD3 E m ops os s acc P'
  | [], _, _, _, _, h, hq => ⟨h.1, hq _ h.2⟩
  | _ :: _, _, _, _, _, h, hq => wpO_mono h fun _ h' => wpD3_mono h' hq
theorem wpD4_mono {ops : List CO} {n0 : Nat} : ∀ {os : List CO} {s : St} {acc : List (List Nat × Bool × Bool)} {P P' : St → Prop}, wpD4 E m ops n0 os s acc P → (∀ s', P s' → P' s') → wpD4 E m ops n0 os s acc P'
  | [], _, _, _, _, h, hq => ⟨h.1, hq _ h.2⟩
  | _ :: _, _, _, _, _, h, hq => wpO_mono h fun _ h' => wpD4_mono h' hq
theorem wpD5_mono {ops : List CO} {wl wh : Nat} : ∀ {os : List CO} {s : St} {acc : List (List Nat × Bool × Bool)} {P P' : St → Prop}, wpD5 E m ops wl wh os s acc P → (∀ s', P s' → P' s') → wpD5 E m ops wl wh os s acc P'
  | [], _, _, _, _, h, hq => ⟨h.1, hq _ h.2⟩
  | _ :: _, _, _, _, _, h, hq => wpO_mono h fun _ h' => wpD5_mono h' hq
theorem go_app {ts : List Tk} {P Q : Ex → St → Prop} (hq : ∀ e s', P e s' → thr E m e ts s' Q) : ∀ (t1 : List Tk), (∀ s, go E m t1 s P → go E m (t1 ++ ts) s Q) ∧ ∀ e s, thr E m e t1 s P → thr E m e (t1 ++ ts) s Q
  | [] => by
    refine ⟨fun s h => ?_, fun e s h => ?_⟩
    · rw [go] at h
      have := hq _ _ h
      rw [thr] at this
      exact this
    · have h2 : P e s := by
        cases e with
        | normal => rw [thr, go] at h; exact h
        | ret => rw [thr] at h; exact h
        | exit j => rw [thr] at h; exact h
      exact hq _ _ h2
  | t :: t1 => by
    obtain ⟨i1, i2⟩ := go_app hq t1
    have g : ∀ s, go E m (t :: t1) s P → go E m (t :: t1 ++ ts) s Q := fun s h => by
      rw [List.cons_append]
      cases t with
      | c c => rw [go] at h ⊢; exact wpC_mono h fun e s' h' => i2 e s' h'
      | o d o => rw [go] at h ⊢; exact wpO_mono h fun s' h' => i1 s' h'
      | r os => rw [go] at h ⊢; exact wpR_mono h fun s' h' => i1 s' h'
      | d ops os acc => rw [go] at h ⊢; exact wpD3_mono h fun s' h' => i1 s' h'
      | e ops os acc n0 => rw [go] at h ⊢; exact wpD4_mono h fun s' h' => i1 s' h'
      | w ops os acc lo hi => rw [go] at h ⊢; exact wpD5_mono h fun s' h' => i1 s' h'
      | blk i => rw [go] at h ⊢; exact i1 s h
    refine ⟨g, fun e s h => ?_⟩
    cases e with
    | normal => rw [thr] at h ⊢; exact g s h
    | ret =>
      rw [thr] at h ⊢
      have := hq _ _ h
      rw [thr] at this
      exact this
    | exit j =>
      rw [List.cons_append]
      cases t with
      | blk i =>
        rw [thr] at h ⊢
        split at h
        · rename_i hj; rw [if_pos hj]; exact i1 s h
        · rename_i hj; rw [if_neg hj]; exact i2 _ s h
      | _ => simp only [thr] at h ⊢; exact i2 _ s h

variable {s s1 s2 : St} {Q : Ex → St → Prop} {L L1 L2 : List Tk}
theorem go_split (n : Nat) (P : St → Prop) (h : go E m (L.take n) s fun e s' => e = .normal ∧ P s') (hq : ∀ s', P s' → go E m (L.drop n) s' Q) : go E m L s Q := by
  rw [← List.take_append_drop n L]
  refine (go_app (fun e s' h => ?_) (L.take n)).1 s h
  obtain ⟨rfl, h⟩ := h
  rw [thr]
  exact hq s' h
/-- Two ways that come together behind their first tasks. -/
theorem brT_split {c : Bool} (n1 n2 : Nat) (P : St → Prop) (h1 : c = true → go E m (L1.take n1) s1 fun e s' => e = .normal ∧ P s') (h2 : c = false → go E m (L2.take n2) s2 fun e s' => e = .normal ∧ P s') (he : L2.drop n2 = L1.drop n1)
    (hq : ∀ s', P s' → go E m (L1.drop n1) s' Q) : brT E m c L1 s1 L2 s2 Q :=
  ⟨fun h => go_split n1 P (h1 h) hq, fun h => go_split n2 P (h2 h) (by rw [he]; exact hq)⟩
end
attribute [go_sem] List.drop_nil List.take_nil
end Go.Proofs.Ytpdkgbamakileaa.Ev

/- Draws of terms and of what is known. -/
namespace Go.Proofs.Ytpdkgbamakileaa.Ev
set_option linter.all false
open Go
set_option maxRecDepth 4000

theorem appK_md {m m2 : Md} (hn : m.nr = m2.nr) {s : St} {esz bytes : Nat} {x y : X} {v : Value} (hx : exv s.ρ x = some v) (h1 : ∀ id ∈ idsOf v, m.wr id = true) (h2 : ∀ id ∈ idsOf v, m2.wr id = true) : appK m s esz bytes x y = appK m2 s esz bytes x y := by
  unfold appK
  rw [hx, hn]
  cases srcOf s.H esz (ex s.ρ y) with
  | none => rfl
  | some p =>
    obtain ⟨n, cs⟩ := p
    cases v with
    | slice a len cap =>
      cases a with
      | none => cases len <;> cases cap <;> rfl
      | some a =>
        obtain ⟨id, off, sp⟩ := a
        have e1 := h1 id (by simp [idsOf])
        have e2 := h2 id (by simp [idsOf])
        cases sp with
        | none => rfl
        | some e => simp only [e1, e2]
    | _ => rfl
def mdAll (m : Md) : Md := { wr := fun _ => true, nr := m.nr }
theorem TK.term2 {m : Md} {N : Nat} {H : Hp} {tv kv : Value} {T : List ByteArray} {K : List Int} (p : ByteArray) (h : TK N H tv kv T K) (hN : N ≤ H.length) (hw : ∀ id ∈ idsOf tv, m.wr id = true) (hb : T.length ≤ 100000010) :
    ∃ v' H', (∀ (s : St) (x y : X), s.H = H → exv s.ρ x = some tv → ex s.ρ y = .vs 1 [.string p] → appK m s 1 16 x y = some (.val v', { s with H := H' })) ∧ TK N H' v' kv (T ++ [p]) K ∧ H.length ≤ H'.length ∧ (∀ j, j < N → H'[j]? = H[j]?) := by
  obtain ⟨v', H', a1, a2, a3, a4, a5, a6, a7⟩ := h.ts.oneS2 (m := mdAll m) p h.ot hN (fun _ _ => rfl) hb
  refine ⟨v', H', fun s x y hH hx hy => ?_, ⟨a2, h.ks.aside (fun j hj hm => h.ap j hm hj) a4, a3, h.ok, fun j hj hm => ?_⟩, a5, fun j hj => a4 j (by omega) (own_notin h.ot hj)⟩
  · rw [appK_md (m := m) (m2 := mdAll m) rfl hx hw (fun _ _ => rfl)]
    exact a1 s x y hH hx hy
  · rcases a6 j hj with h2 | h2
    · exact h.ap j h2 hm
    · have := h.ks.ids j hm
      omega
theorem TK.key2 {m : Md} {N : Nat} {H : Hp} {tv kv : Value} {T : List ByteArray} {K : List Int} (n : Int) (h : TK N H tv kv T K) (hN : N ≤ H.length) (hw : ∀ id ∈ idsOf kv, m.wr id = true) (hb : K.length ≤ 100000010) :
    ∃ v' H', (∀ (s : St) (x y : X), s.H = H → exv s.ρ x = some kv → ex s.ρ y = .vs 1 [.int .i64 n] → appK m s 1 8 x y = some (.val v', { s with H := H' })) ∧ TK N H' tv v' T (K ++ [n]) ∧ H.length ≤ H'.length ∧ (∀ j, j < N → H'[j]? = H[j]?) := by
  obtain ⟨v', H', a1, a2, a3, a4, a5, a6, a7⟩ := h.ks.oneI (m := mdAll m) n h.ok hN (fun _ _ => rfl) hb
  refine ⟨v', H', fun s x y hH hx hy => ?_, ⟨h.ts.aside h.ap a4, a2, h.ot, a3, fun j hj hm => ?_⟩, a5, fun j hj => a4 j (by omega) (own_notin h.ok hj)⟩
  · rw [appK_md (m := m) (m2 := mdAll m) rfl hx hw (fun _ _ => rfl)]
    exact a1 s x y hH hx hy
  · rcases a6 j hm with h2 | h2
    · exact h.ap j hj h2
    · have := h.ts.ids j hj
      omega

theorem f131 {H : Hp} {n : Int} : ScalP EE 131 [.int .i64 n] H fun r => ∃ s : ByteArray, r = .string s ∧ s.size ≤ 900 := by
  refine scalP_ok rfl rfl k131 (by simp [c131]) fun m hw => ?_
  have a90 := fun {m draw t d ts Q} => callT_at (m := m) (draw := draw) (s := t) (d := d) (ts := ts) (Q := Q) (f90 (H := H) (a := n) (b := 1) (c := 1000000))
  have a94 := fun {m draw t d ts Q} => callT_at (m := m) (draw := draw) (s := t) (d := d) (ts := ts) (Q := Q) (f94 (H := H) (n := n))
  have h7 := varB_size n
  have hs : (⟨#[107]⟩ : ByteArray).size + (varB n).size ≤ 9223372036854775807 := by rw [sz1]; omega
  simp only [go_sem, ↓reduceIte, Nat.reduceEqDiff, reduceCtorEq, Nat.reduceAdd, Nat.reduceLeDiff, Nat.reduceMul, c131, a90, hw]
  refine brT.intro (fun q1 => ?_) (fun q1 => ?_)
  · simp only [go_sem, ↓reduceIte, Nat.reduceEqDiff, reduceCtorEq, Nat.reduceAdd, Nat.reduceLeDiff, Nat.reduceMul, a94, hw, hs]
    exact ⟨_, rfl, by rw [app_size, sz1]; omega⟩
  · simp only [go_sem, ↓reduceIte, Nat.reduceEqDiff, reduceCtorEq, Nat.reduceAdd, Nat.reduceLeDiff, Nat.reduceMul]
    exact ⟨_, rfl, Nat.zero_le _⟩

def TmR (H : Hp) (c : Value) (id : Nat) (r : Value) (H' : Hp) : Prop := ∃ s : ByteArray, r = .string s ∧ s.size ≤ 900 ∧ CX H H' c id
theorem sealB_size (k : Int) (t : ByteArray) : (sealB k t).size ≤ 900 := by
  unfold sealB
  split
  · exact okB_size _
  · simp
theorem f125 {c : Value} {id : Nat} : ∀ (d : Nat) {m : Md} {H : Hp}, Cur H c id → Wr m H → m.wr id = true → d ≤ 100 → Fun EE m 125 [c, .int .i64 d] H fun r H' => TmR H c id r H' := by
  intro d
  induction d using Nat.strongRecOn with
  | _ d ih =>
    intro m H hc hw0 hw hd
    refine fun_f rfl rfl k125 (by simp [c125]) ?_
    have hid := hc.lt
    simp only [go_sem, ↓reduceIte, Nat.reduceEqDiff, reduceCtorEq, Nat.reduceAdd, Nat.reduceLeDiff, Nat.reduceMul, c125]
    refine callD (f69 hc hw) rfl fun r H1 ⟨x, e, x0, x1, _, cs1⟩ => ?_
    subst e
    have x1 := x1 (by omega)
    simp only [go_sem, ↓reduceIte, Nat.reduceEqDiff, reduceCtorEq, Nat.reduceAdd, Nat.reduceLeDiff, Nat.reduceMul]
    refine brT_split 3 2 (fun t => t.ρ 0 = .val c ∧ t.ρ 1 = .val (.int .i64 d) ∧ CX H t.H c id ∧ ∃ k : Int, t.ρ 5 = .val (.int .i64 k) ∧ 0 ≤ k ∧ (2 ≤ d ∨ k < 2)) (fun q => ?_) (fun q => ?_) (by rfl) ?_
    · simp only [go_sem, ↓reduceIte, Nat.reduceEqDiff, reduceCtorEq, Nat.reduceAdd, Nat.reduceLeDiff, Nat.reduceMul, q]
      cases q2 : decide (x > 1) <;> simp only [go_sem, ↓reduceIte, Nat.reduceEqDiff, reduceCtorEq, Nat.reduceAdd, Nat.reduceLeDiff, Nat.reduceMul, q2]
      · exact ⟨cs1.cx, x, rfl, x0, .inr (by have := of_decide_eq_false q2; omega)⟩
      · refine callD (f69 cs1.1 hw) rfl fun r H2 ⟨x2, e, y0, y1, _, cs2⟩ => ?_
        subst e
        simp only [go_sem, ↓reduceIte, Nat.reduceEqDiff, reduceCtorEq, Nat.reduceAdd, Nat.reduceLeDiff, Nat.reduceMul]
        exact ⟨(cs1.trans cs2).cx, x2, rfl, y0, .inr (y1 (by omega))⟩
    · simp only [go_sem, ↓reduceIte, Nat.reduceEqDiff, reduceCtorEq, Nat.reduceAdd, Nat.reduceLeDiff, Nat.reduceMul, q]
      exact ⟨cs1.cx, x, rfl, x0, .inl (by have := of_decide_eq_false q; omega)⟩
    · rintro t ⟨t0, t1, tc, k, t5, hk0, hk⟩
      have hwt : Wr m t.H := fun i hi => hw0 i (by have := tc.2.2; omega)
      simp only [go_sem, ↓reduceIte, Nat.reduceEqDiff, reduceCtorEq, Nat.reduceAdd, Nat.reduceLeDiff, Nat.reduceMul, t0, t1, t5]
      cases q0 : decide (k = 0) <;> simp only [go_sem, ↓reduceIte, Nat.reduceEqDiff, reduceCtorEq, Nat.reduceAdd, Nat.reduceLeDiff, Nat.reduceMul, t0, t1, t5, q0]
      · cases q1 : decide (k = 1) <;> simp only [go_sem, ↓reduceIte, Nat.reduceEqDiff, reduceCtorEq, Nat.reduceAdd, Nat.reduceLeDiff, Nat.reduceMul, t0, t1, t5, q1]
        · cases q2 : decide (k = 2) <;> simp only [go_sem, ↓reduceIte, Nat.reduceEqDiff, reduceCtorEq, Nat.reduceAdd, Nat.reduceLeDiff, Nat.reduceMul, t0, t1, t5, q2]
          · have hd2 : 2 ≤ d := by
              have := of_decide_eq_false q0; have := of_decide_eq_false q1; have := of_decide_eq_false q2
              rcases hk with hk | hk <;> omega
            have hd1 : IntKind.i64.wrap ((d : Int) - 1) = ((d - 1 : Nat) : Int) := by rw [wrap64 _ (by omega) (by omega)]; omega
            have p0 : t.H <+: t.H ++ [[]] := List.prefix_append _ _
            have s0 : SlS (t.H ++ [[]]) (.slice (some ⟨t.H.length, 0, some 1⟩) 0 (0 * 1)) [] := own_newS
            have o0 : OwnS H.length (.slice (some ⟨t.H.length, 0, some 1⟩) 0 (0 * 1)) := .inr ⟨_, _, _, _, rfl, tc.2.2⟩
            generalize hwv : Value.slice (some ⟨t.H.length, 0, some 1⟩) 0 (0 * 1) = wv0 at s0 o0
            have c0 := tc.trans (CX.ofPre tc.1 p0)
            refine callD (f69 c0.1 hw) rfl fun r H2 ⟨n0, e, y0, y1, _, cs2⟩ => ?_
            subst e
            have y1 := y1 (by omega)
            obtain ⟨n, rfl⟩ : ∃ n : Nat, n0 = n := ⟨n0.toNat, by omega⟩
            have c2 := c0.trans cs2.cx
            have s2 := s0.cs cs2 (fun h => by have := own_ge o0 id h; omega)
            simp only [go_sem, ↓reduceIte, Nat.reduceEqDiff, reduceCtorEq, Nat.reduceAdd, Nat.reduceLeDiff, Nat.reduceMul, t0, t1, t5]
            refine go_loop (fun n u => u.ρ 0 = .val c ∧ u.ρ 1 = .val (.int .i64 d) ∧ u.ρ 7 = .val (.int .i64 n) ∧ CX H u.H c id ∧ ∃ wv l, u.ρ 6 = .val wv ∧ SlS u.H wv l ∧ OwnS H.length wv ∧ (∀ z ∈ l, z.size ≤ 900) ∧ l.length + n ≤ 4)
              (fun u => CX H u.H c id ∧ ∃ wv l, u.ρ 6 = .val wv ∧ SlS u.H wv l ∧ OwnS H.length wv ∧ (∀ z ∈ l, z.size ≤ 900) ∧ l.length ≤ 4) n ?_ ?_ ?_
            · exact ⟨by simp [upd, t0], by simp [upd, t1], by simp [upd], c2, wv0, [], by simp [upd], s2, o0, by simp, by simp; omega⟩
            · rintro n u ⟨u0, u1, u7, uc, wv, l, u6, us, uo, uz, ul⟩
              have hwu : Wr m u.H := fun i hi => hw0 i (by have := uc.2.2; omega)
              simp only [go_sem, ↓reduceIte, Nat.reduceEqDiff, reduceCtorEq, Nat.reduceAdd, Nat.reduceLeDiff, Nat.reduceMul, u0, u1, u6, u7]
              cases qn : decide ((n : Int) > 0) <;> simp only [go_sem, ↓reduceIte, Nat.reduceEqDiff, reduceCtorEq, Nat.reduceAdd, Nat.reduceLeDiff, Nat.reduceMul, u0, u1, u6, u7, qn]
              · exact ⟨uc, wv, l, rfl, us, uo, uz, by omega⟩
              have hn : 0 < n := by have := of_decide_eq_true qn; omega
              simp only [go_sem, ↓reduceIte, Nat.reduceEqDiff, reduceCtorEq, Nat.reduceAdd, Nat.reduceLeDiff, Nat.reduceMul, u0, u1, u6, u7, hd1]
              refine callD (ih (d - 1) (by omega) uc.1 hwu hw (by omega)) rfl fun r H3 ⟨s, e, hs, c3⟩ => ?_
              subst e
              have us3 := us.cx c3 (fun h => by have := own_ge uo id h; omega)
              have c3' := uc.trans c3
              obtain ⟨v2, H4, a1, a2, a3, a4, a5, a6, a7⟩ := us3.oneS2 (m := m) s uo c3'.2.2 hw0 (by omega)
              simp only [go_sem, ↓reduceIte, Nat.reduceEqDiff, reduceCtorEq, Nat.reduceAdd, Nat.reduceLeDiff, Nat.reduceMul, u0, u1, u6, u7]
              rw [a1]
              rotate_left
              · rfl
              · rfl
              · rfl
              have wn : IntKind.i64.wrap ((n : Int) - 1) = ((n - 1 : Nat) : Int) := by rw [wrap64 _ (by omega) (by omega)]; omega
              simp only [go_sem, ↓reduceIte, Nat.reduceEqDiff, reduceCtorEq, Nat.reduceAdd, Nat.reduceLeDiff, Nat.reduceMul, u0, u1, u6, u7, wn]
              refine ⟨n - 1, by omega, rfl, c3'.own hid (fun j hj => a4 j (by have := c3'.2.2; omega) (own_notin uo hj)) a5, v2, _, rfl, a2, a3, fun z hz => ?_, by simp; omega⟩
              rcases List.mem_append.1 hz with hz | hz
              · exact uz z hz
              · rw [List.mem_singleton] at hz
                subst hz
                exact hs
            · rintro u ⟨uc, wv, l, u6, us, uo, uz, ul⟩
              have hwu : Wr m u.H := fun i hi => hw0 i (by have := uc.2.2; omega)
              have a55 := fun {m draw t d ts Q} => callT_at (m := m) (draw := draw) (s := t) (d := d) (ts := ts) (Q := Q) (f55 us (by omega) (fun x hx => by have := uz x hx; omega))
              simp only [go_sem, ↓reduceIte, Nat.reduceEqDiff, reduceCtorEq, Nat.reduceAdd, Nat.reduceLeDiff, Nat.reduceMul, u6, a55, hwu]
              exact ⟨_, rfl, listB_size _, uc⟩
          · have hd2 : 2 ≤ d := by
              have := of_decide_eq_true q2
              rcases hk with hk | hk <;> omega
            have hd1 : IntKind.i64.wrap ((d : Int) - 1) = ((d - 1 : Nat) : Int) := by rw [wrap64 _ (by omega) (by omega)]; omega
            refine callD (f69 tc.1 hw) rfl fun r H2 ⟨x2, e, y0, y1, _, cs2⟩ => ?_
            subst e
            have y1 := y1 (by omega)
            have hw2 : Wr m H2 := fun i hi => hwt i (by have := cs2.2.2; omega)
            simp only [go_sem, ↓reduceIte, Nat.reduceEqDiff, reduceCtorEq, Nat.reduceAdd, Nat.reduceLeDiff, Nat.reduceMul, t0, t1, t5, hd1]
            refine callD (ih (d - 1) (by omega) cs2.1 hw2 hw (by omega)) rfl fun r H3 ⟨s, e, hs, c3⟩ => ?_
            subst e
            have a54 := fun {m draw t d ts Q} => callT_at (m := m) (draw := draw) (s := t) (d := d) (ts := ts) (Q := Q) (f54 (H := H3) (k := IntKind.i64.wrap (1 + x2)) (t := s) (by omega))
            have hw3 : Wr m H3 := fun i hi => hw2 i (by have := c3.2.2; omega)
            simp only [go_sem, ↓reduceIte, Nat.reduceEqDiff, reduceCtorEq, Nat.reduceAdd, Nat.reduceLeDiff, Nat.reduceMul, t0, t1, t5, a54, hw3]
            exact ⟨_, rfl, sealB_size _ _, tc.trans (cs2.cx.trans c3)⟩
        · refine callD (f69 tc.1 hw) rfl fun r H2 ⟨x2, e, y0, y1, _, cs2⟩ => ?_
          subst e
          have y1 := y1 (by omega)
          have hw2 : Wr m H2 := fun i hi => hwt i (by have := cs2.2.2; omega)
          simp only [go_sem, ↓reduceIte, Nat.reduceEqDiff, reduceCtorEq, Nat.reduceAdd, Nat.reduceLeDiff, Nat.reduceMul, t0, t1, t5, wrap64 (1 + x2) (by omega) (by omega)]
          refine callT_to (fun m' h => f131 (n := 1 + x2) m' h) rfl hw2 fun r3 H3 ⟨⟨s, e, hs⟩, e2⟩ => ?_
          subst e; subst e2
          simp only [go_sem, ↓reduceIte, Nat.reduceEqDiff, reduceCtorEq, Nat.reduceAdd, Nat.reduceLeDiff, Nat.reduceMul, t0, t1, t5]
          exact ⟨s, rfl, hs, tc.trans cs2.cx⟩
      · refine callD (f106 tc.1 (by omega) (by omega) hwt hw) rfl fun r H2 ⟨s, e, hs, cs2⟩ => ?_
        subst e
        have hw2 : Wr m H2 := fun i hi => hwt i (by have := cs2.2.2; omega)
        have a56 := fun {m draw t d ts Q} => callT_at (m := m) (draw := draw) (s := t) (d := d) (ts := ts) (Q := Q) (f56b (H := H2) (x := s) (by omega))
        simp only [go_sem, ↓reduceIte, Nat.reduceEqDiff, reduceCtorEq, Nat.reduceAdd, Nat.reduceLeDiff, Nat.reduceMul, t0, t1, t5, a56, hw2]
        exact ⟨_, rfl, okB_size _, tc.trans cs2.cx⟩
end Go.Proofs.Ytpdkgbamakileaa.Ev

/- What is known, drawn. -/
namespace Go.Proofs.Ytpdkgbamakileaa.Ev
set_option linter.all false
open Go
set_option maxRecDepth 4000

def AnR (H : Hp) (c : Value) (id : Nat) (r : Value) (H' : Hp) : Prop := ∃ s : ByteArray, r = .string s ∧ s.size ≤ 1000 ∧ CX H H' c id
theorem f92 {m : Md} {H : Hp} {c : Value} {id : Nat} (hc : Cur H c id) (hw0 : Wr m H) (hw : m.wr id = true) : Fun EE m 92 [c] H fun r H' => AnR H c id r H' := by
  have hid := hc.lt
  refine fun_t rfl rfl k92 (by simp [c92]) fun m' hm => ?_
  have hw0 : Wr m' H := fun i hi => (hm i).trans (hw0 i hi)
  have hw : m'.wr id = true := (hm id).trans hw
  simp only [go_sem, ↓reduceIte, Nat.reduceEqDiff, reduceCtorEq, Nat.reduceAdd, Nat.reduceLeDiff, Nat.reduceMul, c92]
  refine callD (f69 hc hw) rfl fun r H1 ⟨x, e, x0, x1, _, cs1⟩ => ?_
  subst e
  have x1 := x1 (by omega)
  obtain ⟨d, hd⟩ : ∃ d : Nat, IntKind.i64.wrap (1 + x) = (d : Int) := ⟨(1 + x).toNat, by rw [wrap64 _ (by omega) (by omega)]; omega⟩
  have hd9 : d ≤ 100 := by rw [wrap64 _ (by omega) (by omega)] at hd; omega
  have hw1 : Wr m' H1 := fun i hi => hw0 i (by have := cs1.2.2; omega)
  simp only [go_sem, ↓reduceIte, Nat.reduceEqDiff, reduceCtorEq, Nat.reduceAdd, Nat.reduceLeDiff, Nat.reduceMul, hd]
  refine callD (f125 d cs1.1 hw1 hw hd9) rfl fun r H2 ⟨s, e, hs, c2⟩ => ?_
  subst e
  have hw2 : Wr m' H2 := fun i hi => hw1 i (by have := c2.2.2; omega)
  have cA := cs1.cx.trans c2
  simp only [go_sem, ↓reduceIte, Nat.reduceEqDiff, reduceCtorEq, Nat.reduceAdd, Nat.reduceLeDiff, Nat.reduceMul]
  refine callD (f68 cA.1 hw) rfl fun r H3 ⟨b, e, cs3⟩ => ?_
  subst e
  have hw3 : Wr m' H3 := fun i hi => hw2 i (by have := cs3.2.2; omega)
  have cB := cA.trans cs3.cx
  simp only [go_sem, ↓reduceIte, Nat.reduceEqDiff, reduceCtorEq, Nat.reduceAdd, Nat.reduceLeDiff, Nat.reduceMul]
  cases b with
  | true =>
    simp only [go_sem, ↓reduceIte, Nat.reduceEqDiff, reduceCtorEq, Nat.reduceAdd, Nat.reduceLeDiff, Nat.reduceMul]
    refine callD (f70 (s := s) cB.1 (by omega) hw3 hw) rfl fun r H4 ⟨t, e, htz, cs4⟩ => ?_
    subst e
    simp only [go_sem, ↓reduceIte, Nat.reduceEqDiff, reduceCtorEq, Nat.reduceAdd, Nat.reduceLeDiff, Nat.reduceMul]
    exact ⟨t, rfl, by omega, ((cB.trans cs4.cx).cut hid).cx⟩
  | false =>
    simp only [go_sem, ↓reduceIte, Nat.reduceEqDiff, reduceCtorEq, Nat.reduceAdd, Nat.reduceLeDiff, Nat.reduceMul]
    refine callD (f68 cB.1 hw) rfl fun r H4 ⟨b, e, cs4⟩ => ?_
    subst e
    have cC := cB.trans cs4.cx
    simp only [go_sem, ↓reduceIte, Nat.reduceEqDiff, reduceCtorEq, Nat.reduceAdd, Nat.reduceLeDiff, Nat.reduceMul]
    cases b with
    | false =>
      simp only [go_sem, ↓reduceIte, Nat.reduceEqDiff, reduceCtorEq, Nat.reduceAdd, Nat.reduceLeDiff, Nat.reduceMul]
      exact ⟨s, rfl, by omega, (cC.cut hid).cx⟩
    | true =>
      simp only [go_sem, ↓reduceIte, Nat.reduceEqDiff, reduceCtorEq, Nat.reduceAdd, Nat.reduceLeDiff, Nat.reduceMul]
      refine go_for 9 (fun i t => t.H = H4 ∧ t.ρ 4 = .val (.int .i64 i) ∧ ∃ u : ByteArray, t.ρ 3 = .val (.string u) ∧ u.size ≤ 900 + 2 * i) (fun t => t.H = H4 ∧ ∃ u : ByteArray, t.ρ 3 = .val (.string u) ∧ u.size ≤ 1000) ?_ ?_ ?_
      · exact ⟨rfl, by simp [upd], s, by simp [upd], by omega⟩
      · rintro i t hi ⟨tH, t4, u, t3, hu⟩
        simp only [go_sem, ↓reduceIte, Nat.reduceEqDiff, reduceCtorEq, Nat.reduceAdd, Nat.reduceLeDiff, Nat.reduceMul, t3, t4]
        cases q : decide ((i : Int) < 9) <;> simp only [go_sem, ↓reduceIte, Nat.reduceEqDiff, reduceCtorEq, Nat.reduceAdd, Nat.reduceLeDiff, Nat.reduceMul, t3, t4, q]
        · exact ⟨tH, u, rfl, by omega⟩
        have hi9 : i < 9 := by have := of_decide_eq_true q; omega
        have hz : (⟨#[115, 1]⟩ : ByteArray).size + u.size ≤ 9223372036854775807 := by
          have : (⟨#[115, 1]⟩ : ByteArray).size = 2 := rfl
          omega
        simp only [go_sem, ↓reduceIte, Nat.reduceEqDiff, reduceCtorEq, Nat.reduceAdd, Nat.reduceLeDiff, Nat.reduceMul, t3, t4, hz, wrap64 ((i : Int) + 1) (by omega) (by omega)]
        refine ⟨hi9, tH, by simp, _, rfl, ?_⟩
        rw [app_size]
        have : (⟨#[115, 1]⟩ : ByteArray).size = 2 := rfl
        omega
      · rintro t ⟨tH, u, t3, hu⟩
        simp only [go_sem, ↓reduceIte, Nat.reduceEqDiff, reduceCtorEq, Nat.reduceAdd, Nat.reduceLeDiff, Nat.reduceMul, t3, tH]
        exact ⟨u, rfl, hu, (cC.cut hid).cx⟩
theorem ne20 : ¬ ((20 : Int) = 0) := by decide
theorem f87 {H : Hp} {v : Value} {l : List Int} {most : Int} (hl : SlU H v l) : ScalP EE 87 [v, .int .i64 most] H fun r => ∃ n : Int, r = .int .i64 n ∧ n ≤ most := by
  refine scalP_ok rfl rfl k87 (by simp [c87]) fun m hw => ?_
  simp only [go_sem, ↓reduceIte, Nat.reduceEqDiff, reduceCtorEq, Nat.reduceAdd, Nat.reduceLeDiff, Nat.reduceMul, c87, hl.len, ne20]
  refine brT.intro (fun q => ?_) (fun q => ?_) <;> simp only [go_sem, ↓reduceIte, Nat.reduceEqDiff, reduceCtorEq, Nat.reduceAdd, Nat.reduceLeDiff, Nat.reduceMul]
  · exact ⟨_, rfl, Int.le_refl _⟩
  · exact ⟨_, rfl, by have := of_decide_eq_false q; omega⟩

theorem agg_ids {H : Hp} {tv kv : Value} {T : List ByteArray} {K : List Int} (h : SlS H tv T) (k : SlI H kv K) : ∀ id, id ∈ idsOf tv ∨ id ∈ idsOf kv → id ∈ idsOf (.agg #[tv, kv]) := fun id hid => by
  rcases h with ⟨rfl, _⟩ | ⟨i1, o1, c1, q1, rfl, _⟩ <;> rcases k with ⟨rfl, _⟩ | ⟨i2, o2, c2, q2, rfl, _⟩ <;> simpa [idsOf, ids1] using hid
def LrR (N : Nat) (H : Hp) (kv : Value) (T : List ByteArray) (K : List Int) (x : ByteArray) (r : Value) (H' : Hp) : Prop :=
  ∃ tv' T', r = .agg #[tv', kv] ∧ TK N H' tv' kv T' K ∧ (T' = T ∨ T' = T ++ [x]) ∧ H.length ≤ H'.length ∧ ∀ j, j < N → H'[j]? = H[j]?
theorem f124 {m : Md} {N : Nat} {H : Hp} {tv kv : Value} {T : List ByteArray} {K : List Int} {x : ByteArray} (tk : TK N H tv kv T K) (hN : N ≤ H.length) (hx : x.size ≤ 1000) (hT : T.length ≤ 1000) (hw0 : Wr m H) (hw : ∀ id ∈ idsOf tv, m.wr id = true) :
    Fun EE m 124 [.agg #[tv, kv], .string x] H fun r H' => LrR N H kv T K x r H' := by
  refine fun_f rfl rfl k124 (by simp [c124]) ?_
  have a88 := fun {m draw s d ts Q} => callT_at (m := m) (draw := draw) (s := s) (d := d) (ts := ts) (Q := Q) (f88 (H := H) (s := x) (by omega))
  have a89 := fun {m draw s d ts Q} => callT_at (m := m) (draw := draw) (s := s) (d := d) (ts := ts) (Q := Q) (f89 (a := x) tk.ts)
  have same : LrR N H kv T K x (.agg #[tv, kv]) H := ⟨tv, T, rfl, tk, .inl rfl, Nat.le_refl _, fun _ _ => rfl⟩
  simp only [go_sem, ↓reduceIte, Nat.reduceEqDiff, reduceCtorEq, Nat.reduceAdd, Nat.reduceLeDiff, Nat.reduceMul, c124, tk.ts.vc, tk.ks.vc, a88, hw0]
  cases q1 : tOk x <;> simp only [go_sem, ↓reduceIte, Nat.reduceEqDiff, reduceCtorEq, Nat.reduceAdd, Nat.reduceLeDiff, Nat.reduceMul, q1, tk.ts.vc, tk.ks.vc]
  · exact same
  simp only [go_sem, ↓reduceIte, Nat.reduceEqDiff, reduceCtorEq, Nat.reduceAdd, Nat.reduceLeDiff, Nat.reduceMul, a89, hw0]
  cases q2 : memS x T <;> simp only [go_sem, ↓reduceIte, Nat.reduceEqDiff, reduceCtorEq, Nat.reduceAdd, Nat.reduceLeDiff, Nat.reduceMul, q2, tk.ts.vc, tk.ks.vc, tk.ts.len]
  · cases q3 : decide ((T.length : Int) < 60) <;> simp only [go_sem, ↓reduceIte, Nat.reduceEqDiff, reduceCtorEq, Nat.reduceAdd, Nat.reduceLeDiff, Nat.reduceMul, q3, tk.ts.vc, tk.ks.vc]
    · exact same
    obtain ⟨v', H', a1, a2, a3, a4⟩ := tk.term2 (m := m) x hN hw (by omega)
    rw [a1]
    rotate_left
    · rfl
    · rfl
    · rfl
    simp only [go_sem, ↓reduceIte, Nat.reduceEqDiff, reduceCtorEq, Nat.reduceAdd, Nat.reduceLeDiff, Nat.reduceMul, a2.ts.vc, tk.ks.vc]
    exact ⟨v', _, rfl, a2, .inr rfl, a3, a4⟩
  · exact same

def KnR (H : Hp) (c : Value) (id : Nat) (r : Value) (H' : Hp) : Prop := ∃ tv kv T K, r = .agg #[tv, kv] ∧ TK H.length H' tv kv T K ∧ CX H H' c id ∧ T.length ≤ 100 ∧ K.length ≤ 100 ∧ ∀ t ∈ T, t.size ≤ 1000
theorem TK.still {N : Nat} {H H' : Hp} {tv kv : Value} {T : List ByteArray} {K : List Int} (h : TK N H tv kv T K) (hk : ∀ j, N ≤ j → j < H.length → H'[j]? = H[j]?) : TK N H' tv kv T K :=
  ⟨h.ts.frame (fun _ _ _ h => h) fun id off e ln cap hv => hk id (own_ge h.ot id (by subst hv; simp [idsOf])) (h.ts.ids id (by subst hv; simp [idsOf])),
   h.ks.frame (fun _ _ _ h => h) fun id off e ln cap hv => hk id (own_ge h.ok id (by subst hv; simp [idsOf])) (h.ks.ids id (by subst hv; simp [idsOf])), h.ot, h.ok, h.ap⟩
theorem TK.cx {N : Nat} {H H' : Hp} {tv kv c : Value} {T : List ByteArray} {K : List Int} {id : Nat} (h : TK N H tv kv T K) (k : CX H H' c id) (hid : id < N) : TK N H' tv kv T K :=
  h.still fun j h1 h2 => k.2.1 j h2 (by omega)
theorem f86 {m : Md} {H : Hp} {c : Value} {id : Nat} {most : Int} (hc : Cur H c id) (hm : most ≤ 15) (hw0 : Wr m H) (hw : m.wr id = true) : Fun EE m 86 [c, .int .i64 most] H fun r H' => KnR H c id r H' := by
  refine fun_f rfl rfl k86 (by simp [c86]) ?_
  have hid := hc.lt
  have hcp := hc.1
  subst hcp
  simp only [go_sem, ↓reduceIte, Nat.reduceEqDiff, reduceCtorEq, Nat.reduceAdd, Nat.reduceLeDiff, Nat.reduceMul, c86, buildK, fillL, exps]
  refine callD (f69 hc hw) rfl fun r H1 ⟨n0, e, y0, y1, y2, cs1⟩ => ?_
  subst e
  have hn15 : n0 ≤ 14 := by
    by_cases h : 0 < most
    · have := y1 h; omega
    · have := y2 (by omega); omega
  obtain ⟨n, rfl⟩ : ∃ n : Nat, n0 = n := ⟨n0.toNat, by omega⟩
  have tk0 : TK H.length H1 (.slice none 0 0) (.slice none 0 0) [] [] := ⟨.inl ⟨rfl, rfl⟩, .inl ⟨rfl, rfl⟩, .inl rfl, .inl rfl, by simp [idsOf]⟩
  simp only [go_sem, ↓reduceIte, Nat.reduceEqDiff, reduceCtorEq, Nat.reduceAdd, Nat.reduceLeDiff, Nat.reduceMul]
  refine go_loop (fun n t => t.ρ 0 = .val (.pointer (some ⟨id, 0, some 3⟩)) ∧ t.ρ 4 = .bx 0 [.slice none 0 0, .slice none 0 0] ∧ t.ρ 6 = .val (.int .i64 n) ∧ CX H t.H (.pointer (some ⟨id, 0, some 3⟩)) id ∧ ∃ tv kv T K, t.ρ 5 = .bx 1 [tv, kv] ∧ TK H.length t.H tv kv T K ∧ Asc K ∧ T.length + n ≤ 20 ∧ K.length + n ≤ 20 ∧ ∀ t ∈ T, t.size ≤ 1000)
    (fun t => t.ρ 0 = .val (.pointer (some ⟨id, 0, some 3⟩)) ∧ t.ρ 4 = .bx 0 [.slice none 0 0, .slice none 0 0] ∧ CX H t.H (.pointer (some ⟨id, 0, some 3⟩)) id ∧ ∃ tv kv T K, t.ρ 5 = .bx 1 [tv, kv] ∧ TK H.length t.H tv kv T K ∧ T.length ≤ 20 ∧ K.length ≤ 20 ∧ ∀ t ∈ T, t.size ≤ 1000) n ?_ ?_ ?_
  · exact ⟨by simp [upd, ini], by simp [upd], by simp [upd], cs1.cx, _, _, [], [], by simp [upd], tk0, List.Pairwise.nil, by simp; omega, by simp; omega, by simp⟩
  · rintro n t ⟨t0, t4, t6, tc, tv, kv, T, K, t5, tk, asc, hT, hK, hz⟩
    simp only [go_sem, ↓reduceIte, Nat.reduceEqDiff, reduceCtorEq, Nat.reduceAdd, Nat.reduceLeDiff, Nat.reduceMul, t0, t4, t5, t6]
    cases qn : decide ((n : Int) > 0) <;> simp only [go_sem, ↓reduceIte, Nat.reduceEqDiff, reduceCtorEq, Nat.reduceAdd, Nat.reduceLeDiff, Nat.reduceMul, t0, t4, t5, t6, qn]
    · exact ⟨tc, tv, kv, T, K, rfl, tk, by omega, by omega, hz⟩
    have hn : 0 < n := by have := of_decide_eq_true qn; omega
    have wn : IntKind.i64.wrap ((n : Int) - 1) = ((n - 1 : Nat) : Int) := by rw [wrap64 _ (by omega) (by omega)]; omega
    refine callD (f68 tc.1 hw) rfl fun r H2 ⟨b, e, cs2⟩ => ?_
    subst e
    have c2 := tc.trans cs2.cx
    have tk2 := tk.cx cs2.cx hid
    have hl2 := c2.2.2
    have hw2 : Wr m H2 := fun i hi => hw0 i (by omega)
    simp only [go_sem, ↓reduceIte, Nat.reduceEqDiff, reduceCtorEq, Nat.reduceAdd, Nat.reduceLeDiff, Nat.reduceMul, t0, t4, t5, t6]
    cases b with
    | true =>
      simp only [go_sem, ↓reduceIte, Nat.reduceEqDiff, reduceCtorEq, Nat.reduceAdd, Nat.reduceLeDiff, Nat.reduceMul, t0, t4, t5, t6]
      refine go_draw ?_
      simp only [go_sem, ↓reduceIte, Nat.reduceEqDiff, reduceCtorEq, Nat.reduceAdd, Nat.reduceLeDiff, Nat.reduceMul, t0, t4, t5, t6]
      refine callT_arg (by rfl) (fun m' h1 h2 h3 => f69 (n := 6) c2.1 (h2 id (by simp [idsOf]) hw)) rfl hw2 fun r3 H3 ⟨x, e, x0, x1, _, cs3⟩ => ?_
      subst e
      have c3 := c2.trans cs3.cx
      have tk3 := tk2.cx cs3.cx hid
      have hl3 := c3.2.2
      have hw3 : Wr m H3 := fun i hi => hw0 i (by omega)
      have hK2 : K.length ≤ 100000000 := by omega
      simp only [go_sem, ↓reduceIte, Nat.reduceEqDiff, reduceCtorEq, Nat.reduceAdd, Nat.reduceLeDiff, Nat.reduceMul, t0, t4, t5, t6]
      refine callT_to (fun m' h => f123 tk3.ks asc hK2 h) rfl hw3 fun r4 H4 ⟨p4, s4, o4⟩ => ?_
      have o4' : OwnS H.length r4 ∧ ∀ j ∈ idsOf tv, j ∉ idsOf r4 := by
        rcases o4 with rfl | o4
        · exact ⟨tk3.ok, tk3.ap⟩
        · exact ⟨o4.mono hl3, fun j hj hm => by have := tk3.ts.ids j hj; have := own_ge o4 j hm; omega⟩
      simp only [go_sem, ↓reduceIte, Nat.reduceEqDiff, reduceCtorEq, Nat.reduceAdd, Nat.reduceLeDiff, Nat.reduceMul, t0, t4, t5, t6, s4.vc]
      refine ⟨by rfl, ?_⟩
      simp only [go_sem, ↓reduceIte, Nat.reduceEqDiff, reduceCtorEq, Nat.reduceAdd, Nat.reduceLeDiff, Nat.reduceMul, t0, t4, t5, t6, wn]
      refine ⟨n - 1, by omega, rfl, c3.trans (CX.ofPre c3.1 p4), tv, r4, T, _, rfl, ⟨tk3.ts.pre p4, s4, tk3.ot, o4'.1, o4'.2⟩, rsn_asc _, by omega, ?_, hz⟩
      have := rsn_le (K ++ [IntKind.i64.wrap (1 + x)])
      rw [List.length_append, List.length_singleton] at this
      omega
    | false =>
      simp only [go_sem, ↓reduceIte, Nat.reduceEqDiff, reduceCtorEq, Nat.reduceAdd, Nat.reduceLeDiff, Nat.reduceMul, t0, t4, t5, t6]
      refine go_draw ?_
      simp only [go_sem, ↓reduceIte, Nat.reduceEqDiff, reduceCtorEq, Nat.reduceAdd, Nat.reduceLeDiff, Nat.reduceMul, t0, t4, t5, t6]
      refine callT_arg (by rfl) (fun m' h1 h2 h3 => f125 4 c2.1 h1 (h2 id (by simp [idsOf]) hw) (by omega)) rfl hw2 fun r3 H3 ⟨x, e, hx, cx3⟩ => ?_
      subst e
      have c3 := c2.trans cx3
      have tk3 := tk2.cx cx3 hid
      have hl3 := c3.2.2
      have hw3 : Wr m H3 := fun i hi => hw0 i (by omega)
      simp only [go_sem, ↓reduceIte, Nat.reduceEqDiff, reduceCtorEq, Nat.reduceAdd, Nat.reduceLeDiff, Nat.reduceMul, t0, t4, t5, t6]
      refine callT_arg (by rfl) (fun m' h1 h2 h3 => f124 (x := x) tk3 hl3 (by omega) (by omega) h1 (fun i hi => h2 i (List.mem_flatMap.2 ⟨_, List.mem_cons_self, agg_ids tk3.ts tk3.ks i (.inl hi)⟩) (hw0 i (own_ge tk3.ot i hi)))) rfl hw3 fun r4 H4 ⟨tv', T', e, tk4, hT', hl4, fr4⟩ => ?_
      subst e
      have c4 : CX H H4 (.pointer (some ⟨id, 0, some 3⟩)) id := c3.own hid fr4 hl4
      simp only [go_sem, ↓reduceIte, Nat.reduceEqDiff, reduceCtorEq, Nat.reduceAdd, Nat.reduceLeDiff, Nat.reduceMul, t0, t4, t5, t6, tk4.ts.vc, tk4.ks.vc]
      refine ⟨by rfl, ?_⟩
      simp only [go_sem, ↓reduceIte, Nat.reduceEqDiff, reduceCtorEq, Nat.reduceAdd, Nat.reduceLeDiff, Nat.reduceMul, t0, t4, t5, t6, wn]
      refine ⟨n - 1, by omega, rfl, c4, tv', kv, T', K, rfl, tk4, asc, ?_, by omega, ?_⟩
      · rcases hT' with rfl | rfl
        · omega
        · rw [List.length_append, List.length_singleton]; omega
      · rcases hT' with rfl | rfl
        · exact hz
        · intro z hzz
          rcases List.mem_append.1 hzz with hzz | hzz
          · exact hz z hzz
          · rw [List.mem_singleton] at hzz; subst hzz; omega
  · rintro t ⟨t0, t4, tc, tv, kv, T, K, t5, tk, hT, hK, hz⟩
    have hlt := tc.2.2
    simp only [go_sem, ↓reduceIte, Nat.reduceEqDiff, reduceCtorEq, Nat.reduceAdd, Nat.reduceLeDiff, Nat.reduceMul, t0, t4, t5]
    refine callD (f68 tc.1 hw) rfl fun r H2 ⟨b, e, cs2⟩ => ?_
    subst e
    have c2 := tc.trans cs2.cx
    have tk2 := tk.cx cs2.cx hid
    have hl2 := c2.2.2
    have hw2 : Wr m H2 := fun i hi => hw0 i (by omega)
    simp only [go_sem, ↓reduceIte, Nat.reduceEqDiff, reduceCtorEq, Nat.reduceAdd, Nat.reduceLeDiff, Nat.reduceMul, t0, t4, t5]
    cases b with
    | false =>
      simp only [go_sem, ↓reduceIte, Nat.reduceEqDiff, reduceCtorEq, Nat.reduceAdd, Nat.reduceLeDiff, Nat.reduceMul, t0, t4, t5]
      exact ⟨tv, kv, T, K, rfl, tk2, c2, by omega, by omega, hz⟩
    | true =>
      simp only [go_sem, ↓reduceIte, Nat.reduceEqDiff, reduceCtorEq, Nat.reduceAdd, Nat.reduceLeDiff, Nat.reduceMul, t0, t4, t5]
      refine callD (f69 c2.1 hw) rfl fun r H3 ⟨x, e, x0, x1, _, cs3⟩ => ?_
      subst e
      have c3 := c2.trans cs3.cx
      have tk3 := tk2.cx cs3.cx hid
      have hl3 := c3.2.2
      have hw3 : Wr m H3 := fun i hi => hw0 i (by omega)
      simp only [go_sem, ↓reduceIte, Nat.reduceEqDiff, reduceCtorEq, Nat.reduceAdd, Nat.reduceLeDiff, Nat.reduceMul, t0, t4, t5]
      cases q0 : decide (x = 0) <;> simp only [go_sem, ↓reduceIte, Nat.reduceEqDiff, reduceCtorEq, Nat.reduceAdd, Nat.reduceLeDiff, Nat.reduceMul, t0, t4, t5, q0]
      · cases q1 : decide (x = 1) <;> simp only [go_sem, ↓reduceIte, Nat.reduceEqDiff, reduceCtorEq, Nat.reduceAdd, Nat.reduceLeDiff, Nat.reduceMul, t0, t4, t5, q1, tk3.ts.len]
        · cases q2 : decide ((T.length : Int) > 0) <;> simp only [go_sem, ↓reduceIte, Nat.reduceEqDiff, reduceCtorEq, Nat.reduceAdd, Nat.reduceLeDiff, Nat.reduceMul, t0, t4, t5, q2]
          · exact ⟨tv, kv, T, K, rfl, tk3, c3, by omega, by omega, hz⟩
          have hT0 : 0 < T.length := by have := of_decide_eq_true q2; omega
          obtain ⟨i2, p2, o2, ho2, hr2, hia2⟩ := tk3.ts.strC (i := 0) hT0 0 rfl
          have hg : T[0]?.getD ⟨#[]⟩ = T[0] := by rw [List.getElem?_eq_getElem hT0]; rfl
          rw [hg] at hr2
          obtain ⟨v', H', a1, a2, a3, a4⟩ := tk3.term2 (m := m) T[0] hl3 (fun i hi => hw0 i (own_ge tk3.ot i hi)) (by omega)
          refine go_draw ?_
          simp only [go_sem, ↓reduceIte, Nat.reduceEqDiff, reduceCtorEq, Nat.reduceAdd, Nat.reduceLeDiff, Nat.reduceMul, t0, t4, t5]
          rw [hia2]
          rotate_left
          · rfl
          simp only [go_sem, ↓reduceIte, Nat.reduceEqDiff, reduceCtorEq, Nat.reduceAdd, Nat.reduceLeDiff, Nat.reduceMul, t0, t4, t5, ho2, hr2]
          rw [a1]
          rotate_left
          · rfl
          · rfl
          · rfl
          simp only [go_sem, ↓reduceIte, Nat.reduceEqDiff, reduceCtorEq, Nat.reduceAdd, Nat.reduceLeDiff, Nat.reduceMul, t0, t4, t5, a2.ts.vc]
          refine ⟨by rfl, ?_⟩
          (try simp only [go_sem, ↓reduceIte, Nat.reduceEqDiff, reduceCtorEq, Nat.reduceAdd, Nat.reduceLeDiff, Nat.reduceMul, t0, t4, t5, a2.ts.vc, tk3.ks.vc])
          refine ⟨v', kv, _, K, rfl, a2, c3.own hid a4 a3, by simp; omega, by omega, fun z hzz => ?_⟩
          rcases List.mem_append.1 hzz with hzz | hzz
          · exact hz z hzz
          · rw [List.mem_singleton] at hzz; subst hzz; exact hz _ (List.getElem_mem hT0)
        · refine go_draw ?_
          simp only [go_sem, ↓reduceIte, Nat.reduceEqDiff, reduceCtorEq, Nat.reduceAdd, Nat.reduceLeDiff, Nat.reduceMul, t0, t4, t5]
          refine callT_arg (by rfl) (fun m' h1 h2 h3 => f92 c3.1 h1 (h2 id (by simp [idsOf]) hw)) rfl hw3 fun r4 H4 ⟨s, e, hs, cx4⟩ => ?_
          subst e
          have c4 := c3.trans cx4
          have tk4 := tk3.cx cx4 hid
          obtain ⟨v', H', a1, a2, a3, a4⟩ := tk4.term2 (m := m) s c4.2.2 (fun i hi => hw0 i (own_ge tk4.ot i hi)) (by omega)
          simp only [go_sem, ↓reduceIte, Nat.reduceEqDiff, reduceCtorEq, Nat.reduceAdd, Nat.reduceLeDiff, Nat.reduceMul, t0, t4, t5]
          rw [a1]
          rotate_left
          · rfl
          · rfl
          · rfl
          simp only [go_sem, ↓reduceIte, Nat.reduceEqDiff, reduceCtorEq, Nat.reduceAdd, Nat.reduceLeDiff, Nat.reduceMul, t0, t4, t5, a2.ts.vc]
          refine ⟨by rfl, ?_⟩
          (try simp only [go_sem, ↓reduceIte, Nat.reduceEqDiff, reduceCtorEq, Nat.reduceAdd, Nat.reduceLeDiff, Nat.reduceMul, t0, t4, t5, a2.ts.vc, tk4.ks.vc])
          refine ⟨v', kv, _, K, rfl, a2, c4.own hid a4 a3, by simp; omega, by omega, fun z hzz => ?_⟩
          rcases List.mem_append.1 hzz with hzz | hzz
          · exact hz z hzz
          · rw [List.mem_singleton] at hzz; subst hzz; exact hs
      · have hl := sl_ints (H := H3) [0, 1, 1000001] (by simp)
        have pn := List.prefix_append H3 [[(0 : Int), 1, 1000001].map (Value.int .i64)]
        have cn := c3.trans (CX.ofPre c3.1 pn)
        refine go_draw ?_
        simp only [go_sem, ↓reduceIte, Nat.reduceEqDiff, reduceCtorEq, Nat.reduceAdd, Nat.reduceLeDiff, Nat.reduceMul, t0, t4, t5, fillL]
        refine callT_arg (by rfl) (fun m' h1 h2 h3 => f66 cn.1 (h2 id (by simp [idsOf]) hw) hl (by simp) (by simp [idsOf]; omega)) rfl (fun i hi => hw0 i (by have := cn.2.2; omega)) fun r4 H4 ⟨y, _, e, cs4⟩ => ?_
        subst e
        have c4 := cn.trans cs4.cx
        have tk4 := (tk3.pre pn).cx cs4.cx hid
        obtain ⟨v', H', a1, a2, a3, a4⟩ := tk4.key2 (m := m) y c4.2.2 (fun i hi => hw0 i (own_ge tk4.ok i hi)) (by omega)
        simp only [go_sem, ↓reduceIte, Nat.reduceEqDiff, reduceCtorEq, Nat.reduceAdd, Nat.reduceLeDiff, Nat.reduceMul, t0, t4, t5]
        rw [a1]
        rotate_left
        · rfl
        · rfl
        · rfl
        simp only [go_sem, ↓reduceIte, Nat.reduceEqDiff, reduceCtorEq, Nat.reduceAdd, Nat.reduceLeDiff, Nat.reduceMul, t0, t4, t5, a2.ks.vc]
        refine ⟨by rfl, ?_⟩
        (try simp only [go_sem, ↓reduceIte, Nat.reduceEqDiff, reduceCtorEq, Nat.reduceAdd, Nat.reduceLeDiff, Nat.reduceMul, t0, t4, t5, tk4.ts.vc, a2.ks.vc])
        exact ⟨tv, v', T, _, rfl, a2, c4.own hid a4 a3, by omega, by simp; omega, hz⟩
end Go.Proofs.Ytpdkgbamakileaa.Ev

/- Draws of what is known with a term, and with steps. -/
namespace Go.Proofs.Ytpdkgbamakileaa.Ev
set_option linter.all false
open Go
set_option maxRecDepth 4000

structure Kn (H : Hp) (tv kv : Value) (T : List ByteArray) (K : List Int) : Prop where
  t : SlS H tv T
  k : SlI H kv K
  z : ∀ t ∈ T, t.size ≤ 1000
theorem Kn.pre {H H' : Hp} {tv kv : Value} {T : List ByteArray} {K : List Int} (h : Kn H tv kv T K) (hp : H <+: H') : Kn H' tv kv T K := ⟨h.t.pre hp, h.k.pre hp, h.z⟩
theorem Kn.zz {H : Hp} {tv kv : Value} {T : List ByteArray} {K : List Int} (h : Kn H tv kv T K) : ∀ t ∈ T, t.size ≤ 4611686018427387904 := fun t ht => by have := h.z t ht; omega
theorem f48 {m : Md} {H : Hp} {v : Value} {cl : List Int} (hv : SlU H v cl) (hw : Wr m H) : Fun EE m 48 [v] H fun r H' => ∃ tv kv T K, r = .agg #[tv, kv] ∧ H <+: H' ∧ Kn H' tv kv T K := by
  refine fun_f rfl rfl k48 (by simp [c48]) ?_
  simp only [go_sem, ↓reduceIte, Nat.reduceEqDiff, reduceCtorEq, Nat.reduceAdd, Nat.reduceLeDiff, Nat.reduceMul, c48]
  refine callD (f65 hv) rfl fun r H1 ⟨c1, p1, n1⟩ => ?_
  have p1 : H <+: H1 := p1
  have w1 := hw.pre p1
  simp only [go_sem, ↓reduceIte, Nat.reduceEqDiff, reduceCtorEq, Nat.reduceAdd, Nat.reduceLeDiff, Nat.reduceMul]
  refine callT_to (fun m' h => (f87 (most := 10) (hv.pre p1)) m' h) rfl w1 fun r2 H2 ⟨⟨n, e, hn⟩, e2⟩ => ?_
  subst e; subst e2
  simp only [go_sem, ↓reduceIte, Nat.reduceEqDiff, reduceCtorEq, Nat.reduceAdd, Nat.reduceLeDiff, Nat.reduceMul]
  refine callD (f86 c1 (by omega) w1 (hw _ (Nat.le_refl _))) rfl fun r3 H3 ⟨tv, kv, T, K, e, tk, cx, hT, hK, hz⟩ => ?_
  subst e
  simp only [go_sem, ↓reduceIte, Nat.reduceEqDiff, reduceCtorEq, Nat.reduceAdd, Nat.reduceLeDiff, Nat.reduceMul, tk.ts.vc, tk.ks.vc]
  exact ⟨tv, kv, T, K, rfl, cx.pre p1 (Nat.le_refl _), tk.ts, tk.ks, hz⟩
theorem f51 {m : Md} {H : Hp} {v : Value} {cl : List Int} (hv : SlU H v cl) (hw : Wr m H) : Fun EE m 51 [v] H fun r H' => ∃ tv kv T K, ∃ s : ByteArray, r = .tuple #[.agg #[tv, kv], .string s] ∧ H <+: H' ∧ Kn H' tv kv T K := by
  refine fun_f rfl rfl k51 (by simp [c51]) ?_
  simp only [go_sem, ↓reduceIte, Nat.reduceEqDiff, reduceCtorEq, Nat.reduceAdd, Nat.reduceLeDiff, Nat.reduceMul, c51]
  refine callD (f65 hv) rfl fun r H1 ⟨c1, p1, n1⟩ => ?_
  have p1 : H <+: H1 := p1
  have w1 := hw.pre p1
  have wid := hw H.length (Nat.le_refl _)
  have hlt : H.length < H1.length := c1.lt
  simp only [go_sem, ↓reduceIte, Nat.reduceEqDiff, reduceCtorEq, Nat.reduceAdd, Nat.reduceLeDiff, Nat.reduceMul]
  refine callT_to (fun m' h => (f87 (most := 15) (hv.pre p1)) m' h) rfl w1 fun r2 H2 ⟨⟨n, e, hn⟩, e2⟩ => ?_
  have e2 : H1 = H2 := e2.symm
  subst e; subst e2
  simp only [go_sem, ↓reduceIte, Nat.reduceEqDiff, reduceCtorEq, Nat.reduceAdd, Nat.reduceLeDiff, Nat.reduceMul]
  refine callD (f86 c1 (by omega) w1 wid) rfl fun r3 H3 ⟨tv, kv, T, K, e, tk, cx, hT, hK, hz⟩ => ?_
  subst e
  have w3 : Wr m H3 := fun i hi => w1 i (by have := cx.2.2; omega)
  simp only [go_sem, ↓reduceIte, Nat.reduceEqDiff, reduceCtorEq, Nat.reduceAdd, Nat.reduceLeDiff, Nat.reduceMul, tk.ts.vc, tk.ks.vc]
  refine callD (f92 cx.1 w3 wid) rfl fun r4 H4 ⟨s, e, hs, cx4⟩ => ?_
  subst e
  have tk4 := tk.cx cx4 hlt
  have c4 := cx.trans cx4
  have w4 : Wr m H4 := fun i hi => w3 i (by have := cx4.2.2; omega)
  have done : ∀ {H' : Hp} (s : ByteArray), CX H1 H' r H.length → TK H1.length H' tv kv T K → ∃ tv' kv' T' K', ∃ s' : ByteArray, Value.tuple #[.agg #[tv, kv], .string s] = .tuple #[.agg #[tv', kv'], .string s'] ∧ H <+: H' ∧ Kn H' tv' kv' T' K' := fun {H'} s h k => ⟨tv, kv, T, K, s, rfl, h.pre p1 (Nat.le_refl _), k.ts, k.ks, hz⟩
  simp only [go_sem, ↓reduceIte, Nat.reduceEqDiff, reduceCtorEq, Nat.reduceAdd, Nat.reduceLeDiff, Nat.reduceMul, tk4.ts.vc, tk4.ks.vc, tk4.ts.len]
  cases q1 : decide ((T.length : Int) > 0) <;> simp only [go_sem, ↓reduceIte, Nat.reduceEqDiff, reduceCtorEq, Nat.reduceAdd, Nat.reduceLeDiff, Nat.reduceMul, q1, tk4.ts.vc, tk4.ks.vc]
  · exact done s c4 tk4
  have hT0 : 0 < T.length := by have := of_decide_eq_true q1; omega
  refine callD (f68 c4.1 wid) rfl fun r5 H5 ⟨b, e, cs5⟩ => ?_
  subst e
  have c5 := c4.trans cs5.cx
  have tk5 := tk4.cx cs5.cx hlt
  have w5 : Wr m H5 := fun i hi => w4 i (by have := cs5.2.2; omega)
  simp only [go_sem, ↓reduceIte, Nat.reduceEqDiff, reduceCtorEq, Nat.reduceAdd, Nat.reduceLeDiff, Nat.reduceMul, tk4.ts.vc, tk4.ks.vc]
  cases b with
  | false =>
    simp only [go_sem, ↓reduceIte, Nat.reduceEqDiff, reduceCtorEq, Nat.reduceAdd, Nat.reduceLeDiff, Nat.reduceMul, tk4.ts.vc, tk4.ks.vc]
    exact done s c5 tk5
  | true =>
    obtain ⟨i2, p2, o2, ho2, hr2, hia2⟩ := tk5.ts.strC (i := 0) hT0 0 rfl
    have hg : T[0]?.getD ⟨#[]⟩ = T[0] := by rw [List.getElem?_eq_getElem hT0]; rfl
    rw [hg] at hr2
    have hz0 := hz T[0] (List.getElem_mem hT0)
    have hz1 : T[0].size ≤ 4611686018427387904 := by omega
    simp only [go_sem, ↓reduceIte, Nat.reduceEqDiff, reduceCtorEq, Nat.reduceAdd, Nat.reduceLeDiff, Nat.reduceMul, tk4.ts.vc, tk4.ks.vc]
    rw [hia2]
    rotate_left
    · rfl
    simp only [go_sem, ↓reduceIte, Nat.reduceEqDiff, reduceCtorEq, Nat.reduceAdd, Nat.reduceLeDiff, Nat.reduceMul, ho2, hr2]
    refine callT_to (fun m' h => f93 hz1 h) rfl w5 fun r6 H6 ⟨pv, e, p6, sp, op⟩ => ?_
    subst e
    have p6 : H5 <+: H6 := p6
    have tk6 := tk5.pre p6
    have c6 := c5.trans (CX.ofPre c5.1 p6)
    have op : OwnS H5.length pv := op
    generalize hps : (partsB T[0]).getD [] = ps at sp
    simp only [go_sem, ↓reduceIte, Nat.reduceEqDiff, reduceCtorEq, Nat.reduceAdd, Nat.reduceLeDiff, Nat.reduceMul, List.getElem?_toArray, ofV, sp.len]
    cases q2 : decide ((ps.length : Int) > 0) <;> simp only [go_sem, ↓reduceIte, Nat.reduceEqDiff, reduceCtorEq, Nat.reduceAdd, Nat.reduceLeDiff, Nat.reduceMul, q2, tk4.ts.vc, tk4.ks.vc]
    · exact done s c6 tk6
    have hp0 : 0 < ps.length := by have := of_decide_eq_true q2; omega
    simp only [go_sem, ↓reduceIte, Nat.reduceEqDiff, reduceCtorEq, Nat.reduceAdd, Nat.reduceLeDiff, Nat.reduceMul, sp.len]
    refine callD (f69 c6.1 wid) rfl fun r7 H7 ⟨x, e, x0, x1, _, cs7⟩ => ?_
    subst e
    have x1 := x1 (by omega)
    obtain ⟨k, rfl⟩ : ∃ k : Nat, x = k := ⟨x.toNat, by omega⟩
    have hk : k < ps.length := by omega
    have sp7 := sp.cs cs7 (fun h => by have := own_ge op _ h; have := c5.2.2; omega)
    obtain ⟨i3, p3, o3, ho3, hr3, hia3⟩ := sp7.str (List.getElem?_eq_getElem hk)
    simp only [go_sem, ↓reduceIte, Nat.reduceEqDiff, reduceCtorEq, Nat.reduceAdd, Nat.reduceLeDiff, Nat.reduceMul, hia3, ho3, hr3, tk4.ts.vc, tk4.ks.vc]
    exact done _ (c6.trans cs7.cx) (tk6.cx cs7.cx hlt)

def DsR (H : Hp) (r : Value) (H' : Hp) : Prop := ∃ tv kv T K vl l, r = .tuple #[.agg #[tv, kv], vl] ∧ H <+: H' ∧ Kn H' tv kv T K ∧ SlWy H' vl l ∧ l.length ≤ capW ∧ ∀ w ∈ l, w.1.size ≤ 4611686018427387904
theorem steps_size (kt : List ByteArray) (kk : List Int) : ∀ w ∈ stepsW kt kk, w.1.size ≤ 4611686018427387904 := by
  cases h : knB kt kk with
  | false => rw [stepsW_no h]; simp
  | true => exact (steps_gd h).size
theorem set_wy {l : List Wy} {k : Nat} {z : Wy} (h : ∀ z ∈ l, z.1.size ≤ 4611686018427387904) (hz : z.1.size ≤ 4611686018427387904) : ∀ y ∈ l.set k z, y.1.size ≤ 4611686018427387904 := fun y hy => by
  rcases List.mem_or_eq_of_mem_set hy with hy | rfl
  · exact h y hy
  · exact hz
theorem f52 {m : Md} {H : Hp} {v : Value} {cl : List Int} (hv : SlU H v cl) (hw : Wr m H) : Fun EE m 52 [v] H fun r H' => DsR H r H' := by
  refine fun_f rfl rfl k52 (by simp [c52]) ?_
  have hcap := capP
  simp only [go_sem, ↓reduceIte, Nat.reduceEqDiff, reduceCtorEq, Nat.reduceAdd, Nat.reduceLeDiff, Nat.reduceMul, c52]
  refine callD (f65 hv) rfl fun r H1 ⟨c1, p1, n1⟩ => ?_
  have p1 : H <+: H1 := p1
  have w1 := hw.pre p1
  have wid := hw H.length (Nat.le_refl _)
  have hlt : H.length < H1.length := c1.lt
  have hcp := c1.1
  subst hcp
  simp only [go_sem, ↓reduceIte, Nat.reduceEqDiff, reduceCtorEq, Nat.reduceAdd, Nat.reduceLeDiff, Nat.reduceMul]
  refine callT_to (fun m' h => (f87 (most := 8) (hv.pre p1)) m' h) rfl w1 fun r2 H2 ⟨⟨n, e, hn⟩, e2⟩ => ?_
  have e2 : H1 = H2 := e2.symm
  subst e; subst e2
  simp only [go_sem, ↓reduceIte, Nat.reduceEqDiff, reduceCtorEq, Nat.reduceAdd, Nat.reduceLeDiff, Nat.reduceMul]
  refine callD (f86 c1 (by omega) w1 wid) rfl fun r3 H3 ⟨tv, kv, T, K, e, tk, cx, hT, hK, hz⟩ => ?_
  subst e
  have n3 := cx.2.2
  have w3 : Wr m H3 := fun i hi => w1 i (by omega)
  simp only [go_sem, ↓reduceIte, Nat.reduceEqDiff, reduceCtorEq, Nat.reduceAdd, Nat.reduceLeDiff, Nat.reduceMul, tk.ts.vc, tk.ks.vc]
  refine callT_to (fun m' h => f43 tk.ts tk.ks (fun x hx => by have := hz x hx; omega) h) rfl w3 fun vl H4 ⟨p4, sl, ol⟩ => ?_
  have p4 : H3 <+: H4 := p4
  have ol : OwnS H3.length vl := ol
  have n4 := p4.length_le
  have tk4 := tk.pre p4
  have c4 := cx.trans (CX.ofPre cx.1 p4)
  have hle := stepsW_len T K
  have hzl := steps_size T K
  generalize hL : stepsW T K = L at sl hle hzl
  have done : ∀ {H' : Hp} {u : Value} {l : List Wy}, CX H1 H' (.pointer (some ⟨H.length, 0, some 3⟩)) H.length → TK H1.length H' tv kv T K → SlWy H' u l → l.length ≤ capW → (∀ w ∈ l, w.1.size ≤ 4611686018427387904) → DsR H (.tuple #[.agg #[tv, kv], u]) H' := fun {H' u l} h k s h1 h2 => ⟨tv, kv, T, K, u, l, rfl, h.pre p1 (Nat.le_refl _), ⟨k.ts, k.ks, hz⟩, s, h1, h2⟩
  simp only [go_sem, ↓reduceIte, Nat.reduceEqDiff, reduceCtorEq, Nat.reduceAdd, Nat.reduceLeDiff, Nat.reduceMul, sl.len]
  cases q1 : decide ((L.length : Int) > 0) <;> simp only [go_sem, ↓reduceIte, Nat.reduceEqDiff, reduceCtorEq, Nat.reduceAdd, Nat.reduceLeDiff, Nat.reduceMul, q1, tk4.ts.vc, tk4.ks.vc, sl.vc]
  · exact done c4 tk4 sl hle hzl
  have hL0 : 0 < L.length := by have := of_decide_eq_true q1; omega
  refine callD (f68 c4.1 wid) rfl fun r5 H5 ⟨b, e, cs5⟩ => ?_
  subst e
  have nid : H.length ∉ idsOf vl := fun h => by have := own_ge ol _ h; omega
  have c5 := c4.trans cs5.cx
  have tk5 := tk4.cx cs5.cx hlt
  have sl5 := sl.cs cs5 nid
  have n5 : H5.length = H4.length := cs5.2.2
  simp only [go_sem, ↓reduceIte, Nat.reduceEqDiff, reduceCtorEq, Nat.reduceAdd, Nat.reduceLeDiff, Nat.reduceMul]
  cases b with
  | false =>
    simp only [go_sem, ↓reduceIte, Nat.reduceEqDiff, reduceCtorEq, Nat.reduceAdd, Nat.reduceLeDiff, Nat.reduceMul, tk4.ts.vc, tk4.ks.vc, sl.vc]
    exact done c5 tk5 sl5 hle hzl
  | true =>
    simp only [go_sem, ↓reduceIte, Nat.reduceEqDiff, reduceCtorEq, Nat.reduceAdd, Nat.reduceLeDiff, Nat.reduceMul, sl5.len]
    refine callD (f69 c5.1 wid) rfl fun r6 H6 ⟨x, e, x0, x1, _, cs6⟩ => ?_
    subst e
    have x1 := x1 (by omega)
    obtain ⟨k, rfl⟩ : ∃ k : Nat, x = k := ⟨x.toNat, by omega⟩
    have hk : k < L.length := by omega
    have c6 := c5.trans cs6.cx
    have tk6 := tk5.cx cs6.cx hlt
    have sl6 := sl5.cs cs6 nid
    have n6 : H6.length = H5.length := cs6.2.2
    simp only [go_sem, ↓reduceIte, Nat.reduceEqDiff, reduceCtorEq, Nat.reduceAdd, Nat.reduceLeDiff, Nat.reduceMul]
    refine callD (f69 c6.1 wid) rfl fun r7 H7 ⟨y, e, y0, y1, _, cs7⟩ => ?_
    subst e
    have c7 := c6.trans cs7.cx
    have tk7 := tk6.cx cs7.cx hlt
    have sl7 := sl6.cs cs7 nid
    have n7 : H7.length = H6.length := cs7.2.2
    -- a step's cell written
    have wrote : ∀ {H8 : Hp}, CX H1 H8 (.pointer (some ⟨H.length, 0, some 3⟩)) H.length → TK H1.length H8 tv kv T K → SlWy H8 vl L → H3.length ≤ H8.length → ∃ id p o, H8[id]? = some o ∧ p + 3 ≤ o.length ∧ m.wr id = true ∧
        (∀ (s : St) (x y : X), exv s.ρ x = some vl → exv s.ρ y = some (.int .i64 k) → iadrK s 3 x y = some (.val (.pointer (some ⟨id, p, some o.length⟩)), s)) ∧
        ∀ j (c : Value) (w : Wy), j < 3 → (eWy L[k]).set j c = eWy w → w.1.size ≤ 4611686018427387904 → DsR H (.tuple #[.agg #[tv, kv], vl]) (H8.set id (spl o (p + j) [c])) := fun {H8} c8 tk8 sl8 n8 => by
      obtain ⟨id, p, o, ho, hp, hid, hR, hia, hst⟩ := sl8.both hk
      have hge := own_ge ol id (by rw [hid]; simp)
      refine ⟨id, p, o, ho, hp, hw id (by omega), hia, fun j c w hj hc hwz => ?_⟩
      have e := spl_one (x := c) hR hj hp
      rw [e, hc]
      have hs := hst w (eWy w) rfl rfl
      refine done ?_ ?_ hs (by rw [List.length_set]; exact hle) (set_wy hzl hwz)
      · exact c8.own (by omega) (fun j hj => List.getElem?_set_ne (by omega)) (by rw [List.length_set]; omega)
      · refine ⟨tk8.ts.other (fun h => ?_), tk8.ks.other (fun h => ?_), tk8.ot, tk8.ok, tk8.ap⟩
        · have := tk.ts.ids id h; omega
        · have := tk.ks.ids id h; omega
    simp only [go_sem, ↓reduceIte, Nat.reduceEqDiff, reduceCtorEq, Nat.reduceAdd, Nat.reduceLeDiff, Nat.reduceMul]
    cases q0 : decide (y = 0) <;> simp only [go_sem, ↓reduceIte, Nat.reduceEqDiff, reduceCtorEq, Nat.reduceAdd, Nat.reduceLeDiff, Nat.reduceMul, q0]
    · cases q1' : decide (y = 1) <;> simp only [go_sem, ↓reduceIte, Nat.reduceEqDiff, reduceCtorEq, Nat.reduceAdd, Nat.reduceLeDiff, Nat.reduceMul, q1']
      · cases q2 : decide (y = 2) <;> simp only [go_sem, ↓reduceIte, Nat.reduceEqDiff, reduceCtorEq, Nat.reduceAdd, Nat.reduceLeDiff, Nat.reduceMul, q2]
        · obtain ⟨v1, s1, o1, i1, e1⟩ := sl7.takeO (i := k) (by omega)
          obtain ⟨v2, e2, i2, s2⟩ := sl7.drop (i := k + 1) (by omega)
          have s2 := s2 H7 L rfl sl7
          have o1 := o1 _ ol
          have hcast : (((k + 1 : Nat) : Int)) = (k : Int) + 1 := by omega
          rw [hcast] at e2
          obtain ⟨v3, H8, a1, a2, a3, a4, a5, a6, a7⟩ := s1.join (m := m) (N := H3.length) (bytes := 32) s2 (fun _ => rfl) (by omega) o1 (by omega) w3 (by unfold Ev.room; rw [List.length_take, List.length_drop]; omega) (by unfold Ev.room; rw [List.length_take, List.length_drop]; omega)
          have fr : ∀ j, j < H3.length → H8[j]? = H7[j]? := fun j hj => a4 j (by omega) (fun h => by have := own_ge o1 j h; omega)
          refine go_draw ?_
          simp only [go_sem, ↓reduceIte, Nat.reduceEqDiff, reduceCtorEq, Nat.reduceAdd, Nat.reduceLeDiff, Nat.reduceMul, e1, wrap64 ((k : Int) + 1) (by omega) (by omega), e2]
          rw [a1]
          rotate_left
          · rfl
          · rfl
          · rfl
          simp only [go_sem, ↓reduceIte, Nat.reduceEqDiff, reduceCtorEq, Nat.reduceAdd, Nat.reduceLeDiff, Nat.reduceMul]
          refine ⟨by rfl, ?_⟩
          (try simp only [go_sem, ↓reduceIte, Nat.reduceEqDiff, reduceCtorEq, Nat.reduceAdd, Nat.reduceLeDiff, Nat.reduceMul, tk4.ts.vc, tk4.ks.vc, a2.vc])
          refine done (c7.own (by omega) (fun j hj => fr j (by omega)) a5) ?_ a2 (by rw [List.length_append, List.length_take, List.length_drop]; omega) (fun w hwm => ?_)
          · exact ⟨tk7.ts.frame (fun _ _ _ h => h) fun id off e ln cap hv => fr id (tk.ts.ids id (by subst hv; simp [idsOf])), tk7.ks.frame (fun _ _ _ h => h) fun id off e ln cap hv => fr id (tk.ks.ids id (by subst hv; simp [idsOf])), tk7.ot, tk7.ok, tk7.ap⟩
          · rcases List.mem_append.1 hwm with h | h
            · exact hzl w (List.mem_of_mem_take h)
            · exact hzl w (List.mem_of_mem_drop h)
        · refine callD (f92 c7.1 (fun i hi => w3 i (by omega)) wid) rfl fun r8 H8 ⟨s, e, hs, cx8⟩ => ?_
          subst e
          have n8 := cx8.2.2
          obtain ⟨id, p, o, ho, hp, hwi, hia, hd⟩ := wrote (c7.trans cx8) (tk7.cx cx8 hlt) (sl7.cx cx8 nid) (by omega)
          have hp1 : p + 1 ≤ o.length := by omega
          simp only [go_sem, ↓reduceIte, Nat.reduceEqDiff, reduceCtorEq, Nat.reduceAdd, Nat.reduceLeDiff, Nat.reduceMul, hia, ho, hp1, hwi, tk4.ts.vc, tk4.ks.vc, sl.vc]
          exact hd 0 (.string s) (s, L[k].2.1, L[k].2.2) (by omega) rfl (by simp only; omega)
      · refine callD (f69 c7.1 wid) rfl fun r8 H8 ⟨z, e, z0, z1, _, cs8⟩ => ?_
        subst e
        have n8 : H8.length = H7.length := cs8.2.2
        obtain ⟨id, p, o, ho, hp, hwi, hia, hd⟩ := wrote (c7.trans cs8.cx) (tk7.cx cs8.cx hlt) (sl7.cs cs8 nid) (by omega)
        have hp1 : p + 2 + 1 ≤ o.length := by omega
        simp only [go_sem, ↓reduceIte, Nat.reduceEqDiff, reduceCtorEq, Nat.reduceAdd, Nat.reduceLeDiff, Nat.reduceMul, hia, ho, hp1, hwi, tk4.ts.vc, tk4.ks.vc, sl.vc]
        exact hd 2 (.int .i64 (IntKind.i64.wrap (z - 3))) (L[k].1, L[k].2.1, IntKind.i64.wrap (z - 3)) (by omega) rfl (hzl L[k] (List.getElem_mem hk))
    · refine callD (f69 c7.1 wid) rfl fun r8 H8 ⟨z, e, z0, z1, _, cs8⟩ => ?_
      subst e
      have n8 : H8.length = H7.length := cs8.2.2
      obtain ⟨id, p, o, ho, hp, hwi, hia, hd⟩ := wrote (c7.trans cs8.cx) (tk7.cx cs8.cx hlt) (sl7.cs cs8 nid) (by omega)
      have hp1 : p + 1 + 1 ≤ o.length := by omega
      simp only [go_sem, ↓reduceIte, Nat.reduceEqDiff, reduceCtorEq, Nat.reduceAdd, Nat.reduceLeDiff, Nat.reduceMul, hia, ho, hp1, hwi, tk4.ts.vc, tk4.ks.vc, sl.vc]
      exact hd 1 (.int .i64 (IntKind.i64.wrap (z - 2))) (L[k].1, IntKind.i64.wrap (z - 2), L[k].2.2) (by omega) rfl (hzl L[k] (List.getElem_mem hk))
end Go.Proofs.Ytpdkgbamakileaa.Ev

/- The law Steps. -/
namespace Go.Proofs.Ytpdkgbamakileaa.Ev
set_option linter.all false
open Go
set_option maxRecDepth 4000

theorem sees_t {kt : List ByteArray} {kk : List Int} {t : ByteArray} : seesB kt kk t = true ↔ knB kt kk = true ∧ Seen kt kk t := by unfold seesB; simp
theorem law10 {m : Md} {H : Hp} {v : Value} {cl : List Int} (hv : SlU H v cl) (hw : Wr m H) : Fun EE m 10 [v] H fun r _ => r = .bool true := by
  refine fun_f rfl rfl k10 (by simp [c10]) ?_
  have hcap := capP
  have a31 := fun {m draw s d ts Q} => callT_at (m := m) (draw := draw) (s := s) (d := d) (ts := ts) (Q := Q) (f31 hv)
  simp only [go_sem, ↓reduceIte, Nat.reduceEqDiff, reduceCtorEq, Nat.reduceAdd, Nat.reduceLeDiff, Nat.reduceMul, c10, a31, hw]
  refine brT.intro (fun q0 => ?_) (fun q0 => ?_) <;> simp only [go_sem, ↓reduceIte, Nat.reduceEqDiff, reduceCtorEq, Nat.reduceAdd, Nat.reduceLeDiff, Nat.reduceMul]
  refine callT_to (fun m' h => f48 hv h) rfl hw fun r1 H1 ⟨tv, kv, T, K, e, p1, kn⟩ => ?_
  subst e
  have p1 : H <+: H1 := p1
  have w1 := hw.pre p1
  simp only [go_sem, ↓reduceIte, Nat.reduceEqDiff, reduceCtorEq, Nat.reduceAdd, Nat.reduceLeDiff, Nat.reduceMul, kn.t.vc, kn.k.vc]
  refine callT_to (fun m' h => f44 kn.t kn.k kn.zz h) rfl w1 fun lv H2 ⟨p2, sl, ol⟩ => ?_
  have p2 : H1 <+: H2 := p2
  have w2 := w1.pre p2
  have kn2 := kn.pre p2
  have hle := stepsW_len T K
  have hzl := steps_size T K
  have a49 := fun {m draw s d ts Q} => callT_at (m := m) (draw := draw) (s := s) (d := d) (ts := ts) (Q := Q) (f49 kn2.t kn2.k kn2.zz)
  simp only [go_sem, ↓reduceIte, Nat.reduceEqDiff, reduceCtorEq, Nat.reduceAdd, Nat.reduceLeDiff, Nat.reduceMul, kn.t.vc, kn.k.vc, a49, w2]
  cases hkn : knB T K <;> simp only [go_sem, ↓reduceIte, Nat.reduceEqDiff, reduceCtorEq, Nat.reduceAdd, Nat.reduceLeDiff, Nat.reduceMul, hkn, kn.t.vc, kn.k.vc, sl.vc]
  · rw [stepsW_no hkn] at sl
    simp only [go_sem, ↓reduceIte, Nat.reduceEqDiff, reduceCtorEq, Nat.reduceAdd, Nat.reduceLeDiff, Nat.reduceMul, sl.len]
    rfl
  have hgd := steps_gd hkn
  have hst := steps_ok hkn
  have hseen := steps_seen hkn
  generalize hL : stepsW T K = L at sl hle hzl hgd hst hseen
  have a40 := fun {m draw s d ts Q} => callT_at (m := m) (draw := draw) (s := s) (d := d) (ts := ts) (Q := Q) (f40 kn2.t kn2.k sl hzl kn2.zz (by omega))
  have a37 := fun {m draw s d ts Q} => callT_at (m := m) (draw := draw) (s := s) (d := d) (ts := ts) (Q := Q) (f37 kn2.t kn2.k sl hzl kn2.zz (by omega))
  rw [hst] at a40 a37
  simp only [go_sem, ↓reduceIte, Nat.reduceEqDiff, reduceCtorEq, Nat.reduceAdd, Nat.reduceLeDiff, Nat.reduceMul, kn.t.vc, kn.k.vc, sl.vc, a40, a37, w2]
  refine go_for L.length (fun i s => H2 <+: s.H ∧ s.ρ 0 = .val v ∧ s.ρ 2 = .val (.bool false) ∧ s.ρ 3 = .bx 0 [tv, kv] ∧ s.ρ 4 = .val lv ∧ s.ρ 5 = .val (.int .i64 i))
    (fun s => H2 <+: s.H ∧ s.ρ 0 = .val v ∧ s.ρ 2 = .val (.bool false)) ?_ ?_ ?_
  · exact ⟨List.prefix_refl _, by simp [upd, ini], by simp [upd, ini], by simp [upd], by simp [upd], by simp [upd]⟩
  · rintro i s hi ⟨kH, k0, k2, k3, k4, k5⟩
    have ks := sl.pre kH
    have kn3 := kn2.pre kH
    have kw := w2.pre kH
    simp only [go_sem, ↓reduceIte, Nat.reduceEqDiff, reduceCtorEq, Nat.reduceAdd, Nat.reduceLeDiff, Nat.reduceMul, k0, k2, k3, k4, k5, ks.len]
    cases q1 : decide ((i : Int) < (L.length : Int)) <;> simp only [go_sem, ↓reduceIte, Nat.reduceEqDiff, reduceCtorEq, Nat.reduceAdd, Nat.reduceLeDiff, Nat.reduceMul, k0, k2, k3, k4, k5, q1]
    · exact kH
    have hil : i < L.length := by have := of_decide_eq_true q1; omega
    have w1' := wrap64 ((i : Int) + 1) (by omega) (by omega)
    obtain ⟨id, p, o, ho, hr, hp, hia⟩ := ks.elem (List.getElem?_eq_getElem hil)
    have hr : (o.drop p).take 3 = eWy L[i] := hr
    have g0 : o[p]? = some (.string L[i].1) := by simpa [eWy] using getElem?_of_take hr (j := 0) (by omega)
    have hs : seesB T K L[i].1 = true := sees_t.2 ⟨hkn, (hseen L[i].1).1 (List.mem_map.2 ⟨_, List.getElem_mem hil, rfl⟩)⟩
    refine go_draw ?_
    simp only [go_sem, ↓reduceIte, Nat.reduceEqDiff, reduceCtorEq, Nat.reduceAdd, Nat.reduceLeDiff, Nat.reduceMul, k0, k2, k3, k4, k5, hia, ho, g0, kn.t.vc, kn.k.vc]
    refine callT_to (fun m' h => f50 kn3.t kn3.k kn3.zz h) rfl kw fun r3 H3 ⟨e3, p3⟩ => ?_
    subst e3
    rw [hs]
    have p3 : s.H <+: H3 := p3
    have ks3 := ks.pre p3
    simp only [go_sem, ↓reduceIte, Nat.reduceEqDiff, reduceCtorEq, Nat.reduceAdd, Nat.reduceLeDiff, Nat.reduceMul, k0, k2, k3, k4, k5]
    refine ⟨by rfl, ?_⟩
    (try simp only [go_sem, ↓reduceIte, Nat.reduceEqDiff, reduceCtorEq, Nat.reduceAdd, Nat.reduceLeDiff, Nat.reduceMul, k0, k2, k3, k4, k5])
    refine go_for i (fun j t => t.H = H3 ∧ t.ρ 0 = .val v ∧ t.ρ 2 = .val (.bool false) ∧ t.ρ 3 = .bx 0 [tv, kv] ∧ t.ρ 4 = .val lv ∧ t.ρ 5 = .val (.int .i64 i) ∧ t.ρ 6 = .val (.int .i64 j))
      (fun t => t.H = H3 ∧ t.ρ 0 = .val v ∧ t.ρ 2 = .val (.bool false) ∧ t.ρ 3 = .bx 0 [tv, kv] ∧ t.ρ 4 = .val lv ∧ t.ρ 5 = .val (.int .i64 i)) ?_ ?_ ?_
    · exact ⟨rfl, by simp [upd, k0], by simp [upd, k2], by simp [upd, k3], by simp [upd, k4], by simp [upd, k5], by simp [upd]⟩
    · rintro j t hj ⟨tH, t0, t2, t3, t4, t5, t6⟩
      simp only [go_sem, ↓reduceIte, Nat.reduceEqDiff, reduceCtorEq, Nat.reduceAdd, Nat.reduceLeDiff, Nat.reduceMul, t0, t2, t3, t4, t5, t6]
      cases q2 : decide ((j : Int) < (i : Int)) <;> simp only [go_sem, ↓reduceIte, Nat.reduceEqDiff, reduceCtorEq, Nat.reduceAdd, Nat.reduceLeDiff, Nat.reduceMul, t0, t2, t3, t4, t5, t6, q2]
      · exact tH
      have hji : j < i := by have := of_decide_eq_true q2; omega
      have w2' := wrap64 ((j : Int) + 1) (by omega) (by omega)
      obtain ⟨idj, pj, oj, hoj, hrj, hpj, hiaj⟩ := ks3.elem (List.getElem?_eq_getElem (show j < L.length by omega))
      have hrj : (oj.drop pj).take 3 = eWy L[j] := hrj
      have gj : oj[pj]? = some (.string L[j].1) := by simpa [eWy] using getElem?_of_take hrj (j := 0) (by omega)
      obtain ⟨idi, pi, oi, hoi, hri, hpi, hiai⟩ := ks3.elem (List.getElem?_eq_getElem hil)
      have hri : (oi.drop pi).take 3 = eWy L[i] := hri
      have gi : oi[pi]? = some (.string L[i].1) := by simpa [eWy] using getElem?_of_take hri (j := 0) (by omega)
      have hne : decide (L[j].1 = L[i].1) = false := decide_eq_false (fun e => by
        have hnd := hgd.1
        unfold List.Nodup at hnd
        have := List.pairwise_iff_getElem.1 hnd j i (by simp [tms]; omega) (by simp [tms]; omega) hji
        simp only [tms, List.getElem_map] at this
        exact this e)
      refine go_draw ?_
      simp only [go_sem, ↓reduceIte, Nat.reduceEqDiff, reduceCtorEq, Nat.reduceAdd, Nat.reduceLeDiff, Nat.reduceMul, t0, t2, t3, t4, t5, t6, hiaj, hiai, tH, hoj, hoi, gj, gi]
      refine ⟨by rfl, ?_⟩
      simp only [go_sem, ↓reduceIte, Nat.reduceEqDiff, reduceCtorEq, Nat.reduceAdd, Nat.reduceLeDiff, Nat.reduceMul, t0, t2, t3, t4, t5, t6, hne, w2']
      exact ⟨hji, by simp⟩
    · rintro t ⟨tH, t0, t2, t3, t4, t5⟩
      simp only [go_sem, ↓reduceIte, Nat.reduceEqDiff, reduceCtorEq, Nat.reduceAdd, Nat.reduceLeDiff, Nat.reduceMul, t0, t2, t3, t4, t5, w1']
      exact ⟨hil, by rw [tH]; exact kH.trans p3, by simp⟩
  · rintro s ⟨kH, k0, k2⟩
    have hvs := hv.pre (p1.trans (p2.trans kH))
    have kw := w2.pre kH
    simp only [go_sem, ↓reduceIte, Nat.reduceEqDiff, reduceCtorEq, Nat.reduceAdd, Nat.reduceLeDiff, Nat.reduceMul, k0, k2]
    refine callT_to (fun m' h => f51 hvs h) rfl kw fun r3 H3 ⟨tv, kv, T, K, u, e3, p3, kn⟩ => ?_
    subst e3
    have p3 : s.H <+: H3 := p3
    have w3 := kw.pre p3
    simp only [go_sem, ↓reduceIte, Nat.reduceEqDiff, reduceCtorEq, Nat.reduceAdd, Nat.reduceLeDiff, Nat.reduceMul, List.getElem?_toArray, ofV, kn.t.vc, kn.k.vc]
    refine callT_to (fun m' h => f44 kn.t kn.k kn.zz h) rfl w3 fun lv H4 ⟨p4, sl, ol⟩ => ?_
    have p4 : H3 <+: H4 := p4
    have w4 := w3.pre p4
    have kn4 := kn.pre p4
    have hle := stepsW_len T K
    have hsame : memS u (tms (stepsW T K)) = seesB T K u := by
      rw [Bool.eq_iff_iff, memS_t, sees_t]
      cases hkn : knB T K with
      | false => rw [stepsW_no hkn]; simp [tms]
      | true => rw [steps_seen hkn]; simp
    generalize hL : stepsW T K = L at sl hle hsame
    simp only [go_sem, ↓reduceIte, Nat.reduceEqDiff, reduceCtorEq, Nat.reduceAdd, Nat.reduceLeDiff, Nat.reduceMul, kn.t.vc, kn.k.vc]
    refine go_for L.length (fun i t => t.H = H4 ∧ t.ρ 0 = .val v ∧ t.ρ 7 = .bx (s.gn) [tv, kv] ∧ t.ρ 8 = .val (.string u) ∧ t.ρ 9 = .val lv ∧ t.ρ 11 = .val (.int .i64 i) ∧ t.ρ 10 = .val (.bool (memS u (tms (L.take i)))))
      (fun t => t.H = H4 ∧ t.ρ 0 = .val v ∧ t.ρ 7 = .bx (s.gn) [tv, kv] ∧ t.ρ 8 = .val (.string u) ∧ t.ρ 10 = .val (.bool (memS u (tms L)))) ?_ ?_ ?_
    · exact ⟨rfl, by simp [upd, k0], by simp [upd], by simp [upd], by simp [upd], by simp [upd], by have : memS u (tms (L.take 0)) = false := memS_f.2 (by simp [tms]); rw [this]; simp [upd]⟩
    · rintro i t hi ⟨tH, t0, t7, t8, t9, t11, t10⟩
      simp only [go_sem, ↓reduceIte, Nat.reduceEqDiff, reduceCtorEq, Nat.reduceAdd, Nat.reduceLeDiff, Nat.reduceMul, t0, t7, t8, t9, t10, t11, tH, sl.len]
      cases q1 : decide ((i : Int) < (L.length : Int)) <;> simp only [go_sem, ↓reduceIte, Nat.reduceEqDiff, reduceCtorEq, Nat.reduceAdd, Nat.reduceLeDiff, Nat.reduceMul, t0, t7, t8, t9, t10, t11, q1]
      · have : i = L.length := by have := of_decide_eq_false q1; omega
        subst this
        rw [List.take_length]
      have hil : i < L.length := by have := of_decide_eq_true q1; omega
      have w1' := wrap64 ((i : Int) + 1) (by omega) (by omega)
      obtain ⟨id, p, o, ho, hr, hp, hia⟩ := sl.elem (List.getElem?_eq_getElem hil)
      have hr : (o.drop p).take 3 = eWy L[i] := hr
      have g0 : o[p]? = some (.string L[i].1) := by simpa [eWy] using getElem?_of_take hr (j := 0) (by omega)
      have hsu : tms (L.take (i + 1)) = tms (L.take i) ++ [L[i].1] := by rw [List.take_succ_eq_append_getElem hil, tms_app]; rfl
      cases q2 : memS u (tms (L.take i)) <;> simp only [go_sem, ↓reduceIte, Nat.reduceEqDiff, reduceCtorEq, Nat.reduceAdd, Nat.reduceLeDiff, Nat.reduceMul, t0, t7, t8, t9, t10, t11, q2, hia, tH, ho, g0, w1']
      · have h2 := memS_f.1 q2
        refine ⟨hil, by simp, ?_⟩
        congr 2
        rw [Bool.eq_iff_iff, decide_eq_true_eq, memS_t, hsu, List.mem_append, List.mem_singleton]
        exact ⟨fun e => .inr e.symm, fun e => e.elim (fun e => absurd e h2) (fun e => e.symm)⟩
      · have h2 := memS_t.1 q2
        refine ⟨hil, by simp, ?_⟩
        rw [memS_t.2 (show u ∈ tms (L.take (i + 1)) by rw [hsu]; exact List.mem_append_left _ h2)]
    · rintro t ⟨tH, t0, t7, t8, t10⟩
      have hvt := hvs.pre (p3.trans p4)
      rw [hsame] at t10
      simp only [go_sem, ↓reduceIte, Nat.reduceEqDiff, reduceCtorEq, Nat.reduceAdd, Nat.reduceLeDiff, Nat.reduceMul, t0, t7, t8, t10]
      refine callT_to (fun m' h => f52 hvt h) tH w4 fun r5 H5 ⟨tv2, kv2, T2, K2, vl, l, e5, p5, kn5, s5, h5, z5⟩ => ?_
      subst e5
      have p5 : H4 <+: H5 := by have := p5; exact this
      have w5 := w4.pre p5
      have kk := kn4.pre p5
      simp only [go_sem, ↓reduceIte, Nat.reduceEqDiff, reduceCtorEq, Nat.reduceAdd, Nat.reduceLeDiff, Nat.reduceMul, List.getElem?_toArray, ofV, kn5.t.vc, kn5.k.vc, t0, t7, t8, t10]
      refine go_draw ?_
      simp only [go_sem, ↓reduceIte, Nat.reduceEqDiff, reduceCtorEq, Nat.reduceAdd, Nat.reduceLeDiff, Nat.reduceMul, kn5.t.vc, kn5.k.vc, kn.t.vc, kn.k.vc, t0, t7, t8, t10]
      refine callT_to (fun m' h => f50 kk.t kk.k kk.zz h) rfl w5 fun r6 H6 ⟨e6, p6⟩ => ?_
      subst e6
      have p6 : H5 <+: H6 := p6
      have w6 := w5.pre p6
      have kn6 := kn5.pre p6
      have s6 := s5.pre p6
      have a40 := fun {m draw s d ts Q} => callT_at (m := m) (draw := draw) (s := s) (d := d) (ts := ts) (Q := Q) (f40 kn6.t kn6.k s6 z5 kn6.zz (by omega))
      have a37 := fun {m draw s d ts Q} => callT_at (m := m) (draw := draw) (s := s) (d := d) (ts := ts) (Q := Q) (f37 kn6.t kn6.k s6 z5 kn6.zz (by omega))
      have bb : ∀ b : Bool, decide (b = b) = true := fun b => by simp
      simp only [go_sem, ↓reduceIte, Nat.reduceEqDiff, reduceCtorEq, Nat.reduceAdd, Nat.reduceLeDiff, Nat.reduceMul, kn5.t.vc, kn5.k.vc, kn.t.vc, kn.k.vc, s5.vc, t0, t7, t8, t10, beqK, bb, a40, a37, w6]
      rfl
end Go.Proofs.Ytpdkgbamakileaa.Ev
