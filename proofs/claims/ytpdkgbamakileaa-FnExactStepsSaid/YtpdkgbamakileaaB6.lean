/- Texts of this proof, laid one behind the other: what each shows stands at its head. -/
import Derived.Test.YtpdkgbamakileaaB3
import Derived.Test.YtpdkgbamakileaaB5
/- Steps, one after the other: both ways. -/
namespace Go.Proofs.Ytpdkgbamakileaa.Ev
set_option linter.all false
open Go
set_option maxRecDepth 4000

theorem stepsW_no {kt : List ByteArray} {kk : List Int} (h : knB kt kk = false) : stepsW kt kk = [] := by
  unfold stepsW
  rw [if_neg (by rw [h]; decide)]
theorem stepsW_yes {kt : List ByteArray} {kk : List Int} (h : knB kt kk = true) : stepsW kt kk = roundW kk capW capW (begW kt) := by
  unfold stepsW
  rw [if_pos h]
theorem capP : capW = 48708060 := by decide
theorem pass_ge {kt : List ByteArray} {kk : List Int} {l : List Wy} (hg : GdW kt l) : l.length ≤ (passW kk capW 0 l).length := (passW_gd (kk := kk) (f := capW) (i := 0) hg).2.length_le

/-- A round: where it ends, or what is left to do. -/
theorem round_on {kt : List ByteArray} {kk : List Int} {l : List Wy} {j : Nat} (hK : KnOk kt kk) (hg : GdW kt l) (hj : j ≤ l.length) (hne : ¬ (passW kk capW 0 l).length = l.length) :
    roundW kk capW (capW - j) l = roundW kk capW (capW - (j + 1)) (passW kk capW 0 l) ∧ j + 1 ≤ (passW kk capW 0 l).length ∧ j < capW := by
  have h1 := pass_ge (kk := kk) hg
  have h2 := ((passW_gd (kk := kk) (f := capW) (i := 0) hg).1).cap hK
  refine ⟨?_, by omega, by omega⟩
  rw [show capW - j = (capW - (j + 1)) + 1 by omega, roundW_step hne]

theorem f43 {m : Md} {H : Hp} {vt vk : Value} {kt : List ByteArray} {kk : List Int} (ht : SlS H vt kt) (hk : SlI H vk kk) (hz : ∀ x ∈ kt, x.size ≤ 4611686018427387904) (hw : Wr m H) :
    Fun EE m 43 [.agg #[vt, vk]] H fun r H' => FreshS eWy 3 H r H' (stepsW kt kk) := by
  refine fun_f rfl rfl k43 (by simp [c43]) ?_
  have hc := capP
  have p0 : H <+: H ++ [[]] := List.prefix_append _ _
  have s0 : SlWy (H ++ [[]]) (.slice (some ⟨H.length, 0, some 3⟩) 0 (0 * 3)) [] := own_newWy
  have o0 : OwnS H.length (.slice (some ⟨H.length, 0, some 3⟩) 0 (0 * 3)) := .inr ⟨_, _, _, _, rfl, Nat.le_refl _⟩
  generalize hwv : Value.slice (some ⟨H.length, 0, some 3⟩) 0 (0 * 3) = wv0 at s0 o0
  have t0 := ht.pre p0
  have k0 := hk.pre p0
  have a49 := fun {m draw t d ts Q} => callT_at (m := m) (draw := draw) (s := t) (d := d) (ts := ts) (Q := Q) (f49 t0 k0 hz)
  simp only [go_sem, ↓reduceIte, Nat.reduceEqDiff, reduceCtorEq, Nat.reduceAdd, Nat.reduceLeDiff, Nat.reduceMul, c43, fillL, hwv, t0.vc, k0.vc, a49, hw.pre p0]
  cases hkn : knB kt kk with
  | false =>
    simp only [go_sem, ↓reduceIte, Nat.reduceEqDiff, reduceCtorEq, Nat.reduceAdd, Nat.reduceLeDiff, Nat.reduceMul]
    rw [stepsW_no hkn]
    exact ⟨p0, s0, o0⟩
  | true =>
  have hK := kn_t.1 hkn
  rw [stepsW_yes hkn]
  generalize hT : roundW kk capW capW (begW kt) = T
  simp only [go_sem, ↓reduceIte, Nat.reduceEqDiff, reduceCtorEq, Nat.reduceAdd, Nat.reduceLeDiff, Nat.reduceMul]
  refine go_for kt.length (fun i s => H <+: s.H ∧ s.ρ 1 = .bx 0 [vt, vk] ∧ s.ρ 4 = .val (.int .i64 i) ∧ ∃ wv, s.ρ 3 = .val wv ∧ SlWy s.H wv (begW (kt.take i)) ∧ OwnS H.length wv)
    (fun s => H <+: s.H ∧ s.ρ 1 = .bx 0 [vt, vk] ∧ ∃ wv, s.ρ 3 = .val wv ∧ SlWy s.H wv (begW kt) ∧ OwnS H.length wv) ?_ ?_ ?_
  · exact ⟨p0, by simp [upd, ini], by simp [upd], wv0, by simp [upd], s0, o0⟩
  · rintro i s hi ⟨kH, k1, k4, wv, k3, ks, ko⟩
    have kt' := ht.pre kH
    have kk' := hk.pre kH
    have hroom := kt'.room
    simp only [go_sem, ↓reduceIte, Nat.reduceEqDiff, reduceCtorEq, Nat.reduceAdd, Nat.reduceLeDiff, Nat.reduceMul, k1, k3, k4, kt'.vc, kk'.vc, kt'.len]
    refine brT.intro (fun q1 => ?_) (fun q1 => ?_) <;> simp only [go_sem, ↓reduceIte, Nat.reduceEqDiff, reduceCtorEq, Nat.reduceAdd, Nat.reduceLeDiff, Nat.reduceMul, k1, k3, k4, kt'.vc, kk'.vc]
    · have hil : i < kt.length := by have := of_decide_eq_true q1; omega
      obtain ⟨id, p, o, ho, hr, hia⟩ := kt'.str (List.getElem?_eq_getElem hil)
      obtain ⟨v2, H2, d1, d2, d3, d4, d5, d6⟩ := Sl.oneWy (m := m) (kt[i], -1, -1) nilS ks nilS_d ko kH.length_le hw (begW_gdp hK i)
      unfold eWy at d1
      simp only [go_sem, ↓reduceIte, Nat.reduceEqDiff, reduceCtorEq, Nat.reduceAdd, Nat.reduceLeDiff, Nat.reduceMul, k1, k3, k4, kt'.vc, kk'.vc, hia, ho, hr]
      rw [d1]
      rotate_left
      · rfl
      · rfl
      · rfl
      simp only [go_sem, ↓reduceIte, Nat.reduceEqDiff, reduceCtorEq, Nat.reduceAdd, Nat.reduceLeDiff, Nat.reduceMul, k1, k3, k4, wrap64 ((i : Int) + 1) (by omega) (by omega)]
      exact ⟨hil, d6 H (Nat.le_refl _) kH, by simp, v2, rfl, by rw [begW_succ hil]; exact d3, d4⟩
    · have : i = kt.length := by have := of_decide_eq_false q1; omega
      subst this
      rw [List.take_length] at ks
      exact ⟨kH, wv, rfl, ks, ko⟩
  · rintro s ⟨kH, k1, wv, k3, ks, ko⟩
    simp only [go_sem, ↓reduceIte, Nat.reduceEqDiff, reduceCtorEq, Nat.reduceAdd, Nat.reduceLeDiff, Nat.reduceMul, k1, k3]
    refine go_for capW (fun j s => H <+: s.H ∧ s.ρ 1 = .bx 0 [vt, vk] ∧ ∃ wv l, s.ρ 3 = .val wv ∧ SlWy s.H wv l ∧ OwnS H.length wv ∧ GdW kt l ∧ j ≤ l.length ∧ roundW kk capW (capW - j) l = T) (fun _ => False) ?_ ?_ ?_
    · exact ⟨kH, by simp [k1], wv, begW kt, by simp [k3], ks, ko, begW_gd hK, Nat.zero_le _, hT⟩
    · rintro j s hj ⟨kH, k1, wv, l, k3, ks, ko, hg, hjl, hround⟩
      simp only [go_sem, ↓reduceIte, Nat.reduceEqDiff, reduceCtorEq, Nat.reduceAdd, Nat.reduceLeDiff, Nat.reduceMul, k1, k3, ks.len]
      refine go_for capW (fun i s => H <+: s.H ∧ s.ρ 1 = .bx 0 [vt, vk] ∧ s.ρ 5 = .val (.int .i64 l.length) ∧ s.ρ 6 = .val (.int .i64 i) ∧ ∃ wv u, s.ρ 3 = .val wv ∧ SlWy s.H wv u ∧ OwnS H.length wv ∧ GdW kt u ∧ passW kk (capW - i) i u = passW kk capW 0 l)
        (fun s => H <+: s.H ∧ s.ρ 1 = .bx 0 [vt, vk] ∧ s.ρ 5 = .val (.int .i64 l.length) ∧ ∃ wv, s.ρ 3 = .val wv ∧ SlWy s.H wv (passW kk capW 0 l) ∧ OwnS H.length wv) ?_ ?_ ?_
      · exact ⟨kH, by simp [upd, k1], by simp [upd], by simp [upd], wv, l, by simp [upd, k3], ks, ko, hg, by simp⟩
      · rintro i s hi ⟨kH, k1, k5, k6, wv, u, k3, ks, ko, hgu, hpass⟩
        have cu := hgu.cap hK
        have kt' := ht.pre kH
        have kk' := hk.pre kH
        simp only [go_sem, ↓reduceIte, Nat.reduceEqDiff, reduceCtorEq, Nat.reduceAdd, Nat.reduceLeDiff, Nat.reduceMul, k1, k3, k5, k6, ks.len]
        refine brT.intro (fun q1 => ?_) (fun q1 => ?_) <;> simp only [go_sem, ↓reduceIte, Nat.reduceEqDiff, reduceCtorEq, Nat.reduceAdd, Nat.reduceLeDiff, Nat.reduceMul, k1, k3, k5, k6, kt'.vc, kk'.vc]
        · have hiu : i < u.length := by have := of_decide_eq_true q1; omega
          refine callT_now (f80 (H0 := H) ht hk ks ko kH hiu hgu hK hw) fun r1 H1 ⟨s1, o1, p1⟩ => ?_
          simp only [go_sem, ↓reduceIte, Nat.reduceEqDiff, reduceCtorEq, Nat.reduceAdd, Nat.reduceLeDiff, Nat.reduceMul, k1, k3, k5, k6, wrap64 ((i : Int) + 1) (by omega) (by omega)]
          refine ⟨by omega, p1, by simp, r1, _, rfl, s1, o1, lookW_gd hgu, ?_⟩
          · rw [← hpass, show capW - i = (capW - (i + 1)) + 1 by omega, passW_step hiu]
        · have hiu : ¬ i < u.length := by have := of_decide_eq_false q1; omega
          rw [passW_stop hiu] at hpass
          subst hpass
          exact ⟨kH, wv, rfl, ks, ko⟩
      · rintro s ⟨kH, k1, k5, wv, k3, ks, ko⟩
        simp only [go_sem, ↓reduceIte, Nat.reduceEqDiff, reduceCtorEq, Nat.reduceAdd, Nat.reduceLeDiff, Nat.reduceMul, k1, k3, k5, ks.len]
        refine brT.intro (fun q1 => ?_) (fun q1 => ?_) <;> simp only [go_sem, ↓reduceIte, Nat.reduceEqDiff, reduceCtorEq, Nat.reduceAdd, Nat.reduceLeDiff, Nat.reduceMul, k1, k3, k5]
        · have q1' : (passW kk capW 0 l).length = l.length := by have := of_decide_eq_true q1; omega
          rw [roundW_stop q1'] at hround
          subst hround
          exact ⟨kH, ks, ko⟩
        · have q1' : ¬ (passW kk capW 0 l).length = l.length := by have := of_decide_eq_false q1; omega
          obtain ⟨b1, b2, b3⟩ := round_on hK hg hjl q1'
          exact ⟨b3, kH, wv, _, rfl, ks, ko, (passW_gd hg).1, b2, by rw [← b1]; exact hround⟩
    · intro s h
      exact h.elim

theorem f44 {m : Md} {H : Hp} {vt vk : Value} {kt : List ByteArray} {kk : List Int} (ht : SlS H vt kt) (hk : SlI H vk kk) (hz : ∀ x ∈ kt, x.size ≤ 4611686018427387904) (hw : Wr m H) :
    Fun EE m 44 [.agg #[vt, vk]] H fun r H' => FreshS eWy 3 H r H' (stepsW kt kk) := by
  refine fun_f rfl rfl k44 (by simp [c44]) ?_
  have hc := capP
  have p0 : H <+: H ++ [[]] := List.prefix_append _ _
  have s0 : SlWy (H ++ [[]]) (.slice (some ⟨H.length, 0, some 3⟩) 0 (0 * 3)) [] := own_newWy
  have o0 : OwnS H.length (.slice (some ⟨H.length, 0, some 3⟩) 0 (0 * 3)) := .inr ⟨_, _, _, _, rfl, Nat.le_refl _⟩
  generalize hwv : Value.slice (some ⟨H.length, 0, some 3⟩) 0 (0 * 3) = wv0 at s0 o0
  have t0 := ht.pre p0
  have k0 := hk.pre p0
  have hkt := ht.room
  have a77 := fun {m draw t d ts Q} => callT_at (m := m) (draw := draw) (s := t) (d := d) (ts := ts) (Q := Q) (f77 t0 k0 hz)
  simp only [go_sem, ↓reduceIte, Nat.reduceEqDiff, reduceCtorEq, Nat.reduceAdd, Nat.reduceLeDiff, Nat.reduceMul, c44, fillL, hwv, t0.vc, k0.vc, a77, hw.pre p0]
  cases hkn : knB kt kk with
  | false =>
    simp only [go_sem, ↓reduceIte, Nat.reduceEqDiff, reduceCtorEq, Nat.reduceAdd, Nat.reduceLeDiff, Nat.reduceMul]
    rw [stepsW_no hkn]
    exact ⟨p0, s0, o0⟩
  | true =>
  have hK := kn_t.1 hkn
  rw [stepsW_yes hkn]
  generalize hT : roundW kk capW capW (begW kt) = T
  simp only [go_sem, ↓reduceIte, Nat.reduceEqDiff, reduceCtorEq, Nat.reduceAdd, Nat.reduceLeDiff, Nat.reduceMul, t0.vc, k0.vc, t0.len]
  refine go_for kt.length (fun i s => H <+: s.H ∧ s.ρ 1 = .bx 0 [vt, vk] ∧ s.ρ 22 = .val vt ∧ s.ρ 23 = .val (.int .i64 kt.length) ∧ s.ρ 24 = .val (.int .i64 i) ∧ ∃ wv, s.ρ 3 = .val wv ∧ SlWy s.H wv (begW (kt.take i)) ∧ OwnS H.length wv)
    (fun s => H <+: s.H ∧ s.ρ 1 = .bx 0 [vt, vk] ∧ ∃ wv, s.ρ 3 = .val wv ∧ SlWy s.H wv (begW kt) ∧ OwnS H.length wv) ?_ ?_ ?_
  · exact ⟨p0, by simp [upd, ini], by simp [upd], by simp [upd], by simp [upd], wv0, by simp [upd], s0, o0⟩
  · rintro i s hi ⟨kH, k1, k22, k23, k24, wv, k3, ks, ko⟩
    have kt' := ht.pre kH
    simp only [go_sem, ↓reduceIte, Nat.reduceEqDiff, reduceCtorEq, Nat.reduceAdd, Nat.reduceLeDiff, Nat.reduceMul, k1, k3, k22, k23, k24]
    refine brT.intro (fun q1 => ?_) (fun q1 => ?_) <;> simp only [go_sem, ↓reduceIte, Nat.reduceEqDiff, reduceCtorEq, Nat.reduceAdd, Nat.reduceLeDiff, Nat.reduceMul, k1, k3, k22, k23, k24]
    · have hil : i < kt.length := by have := of_decide_eq_true q1; omega
      obtain ⟨id, p, o, ho, hr, hia⟩ := kt'.str (List.getElem?_eq_getElem hil)
      obtain ⟨v2, H2, d1, d2, d3, d4, d5, d6⟩ := Sl.oneWy (m := m) (kt[i], -1, -1) nilS ks nilS_d ko kH.length_le hw (begW_gdp hK i)
      unfold eWy at d1
      simp only [go_sem, ↓reduceIte, Nat.reduceEqDiff, reduceCtorEq, Nat.reduceAdd, Nat.reduceLeDiff, Nat.reduceMul, k1, k3, k22, k23, k24, hia, ho, hr]
      rw [d1]
      rotate_left
      · rfl
      · rfl
      · rfl
      simp only [go_sem, ↓reduceIte, Nat.reduceEqDiff, reduceCtorEq, Nat.reduceAdd, Nat.reduceLeDiff, Nat.reduceMul, k1, k3, k22, k23, k24, wrap64 ((i : Int) + 1) (by omega) (by omega)]
      exact ⟨hil, d6 H (Nat.le_refl _) kH, by simp, v2, rfl, by rw [begW_succ hil]; exact d3, d4⟩
    · have : i = kt.length := by have := of_decide_eq_false q1; omega
      subst this
      rw [List.take_length] at ks
      exact ⟨kH, wv, rfl, ks, ko⟩
  · rintro s ⟨kH, k1, wv, k3, ks, ko⟩
    simp only [go_sem, ↓reduceIte, Nat.reduceEqDiff, reduceCtorEq, Nat.reduceAdd, Nat.reduceLeDiff, Nat.reduceMul, k1, k3]
    refine go_for (capW + 1) (fun j s => H <+: s.H ∧ s.ρ 1 = .bx 0 [vt, vk] ∧ ∃ wv l, ∃ z : Int, s.ρ 3 = .val wv ∧ s.ρ 6 = .val (.int .i64 z) ∧ SlWy s.H wv l ∧ OwnS H.length wv ∧ GdW kt l ∧ (z < l.length → j ≤ l.length ∧ roundW kk capW (capW - j) l = T) ∧ (¬ z < l.length → l = T))
      (fun s => H <+: s.H ∧ ∃ wv, s.ρ 3 = .val wv ∧ SlWy s.H wv T ∧ OwnS H.length wv) ?_ ?_ ?_
    · exact ⟨kH, by simp [upd, k1], wv, begW kt, -1, by simp [upd, k3], by simp [upd], ks, ko, begW_gd hK, fun _ => ⟨Nat.zero_le _, hT⟩, fun h => by omega⟩
    · rintro j s hj ⟨kH, k1, wv, l, z, k3, k6, ks, ko, hg, hround, hend⟩
      have cl := hg.cap hK
      simp only [go_sem, ↓reduceIte, Nat.reduceEqDiff, reduceCtorEq, Nat.reduceAdd, Nat.reduceLeDiff, Nat.reduceMul, k1, k3, k6, ks.len]
      refine brT.intro (fun q1 => ?_) (fun q1 => ?_) <;> simp only [go_sem, ↓reduceIte, Nat.reduceEqDiff, reduceCtorEq, Nat.reduceAdd, Nat.reduceLeDiff, Nat.reduceMul, k1, k3, k6, ks.len]
      rotate_left
      · rw [hend (of_decide_eq_false q1)] at ks
        exact ⟨kH, wv, rfl, ks, ko⟩
      obtain ⟨hjl, hround⟩ := hround (of_decide_eq_true q1)
      refine go_for capW (fun i s => H <+: s.H ∧ s.ρ 1 = .bx 0 [vt, vk] ∧ s.ρ 6 = .val (.int .i64 l.length) ∧ s.ρ 7 = .val (.int .i64 i) ∧ ∃ wv u, s.ρ 3 = .val wv ∧ SlWy s.H wv u ∧ OwnS H.length wv ∧ GdW kt u ∧ passW kk (capW - i) i u = passW kk capW 0 l)
        (fun s => H <+: s.H ∧ s.ρ 1 = .bx 0 [vt, vk] ∧ s.ρ 6 = .val (.int .i64 l.length) ∧ ∃ wv, s.ρ 3 = .val wv ∧ SlWy s.H wv (passW kk capW 0 l) ∧ OwnS H.length wv) ?_ ?_ ?_
      · exact ⟨kH, by simp [upd, k1], by simp [upd], by simp [upd], wv, l, by simp [upd, k3], ks, ko, hg, by simp⟩
      · rintro i s hi ⟨kH, k1, k6, k7, wv, u, k3, ks, ko, hgu, hpass⟩
        have cu := hgu.cap hK
        have kt' := ht.pre kH
        have kk' := hk.pre kH
        have kw := hw.pre kH
        simp only [go_sem, ↓reduceIte, Nat.reduceEqDiff, reduceCtorEq, Nat.reduceAdd, Nat.reduceLeDiff, Nat.reduceMul, k1, k3, k6, k7, ks.len]
        refine brT.intro (fun q1 => ?_) (fun q1 => ?_) <;> simp only [go_sem, ↓reduceIte, Nat.reduceEqDiff, reduceCtorEq, Nat.reduceAdd, Nat.reduceLeDiff, Nat.reduceMul, k1, k3, k6, k7]
        rotate_left
        · have hiu : ¬ i < u.length := by have := of_decide_eq_false q1; omega
          rw [passW_stop hiu] at hpass
          subst hpass
          exact ⟨kH, wv, rfl, ks, ko⟩
        have hiu : i < u.length := by have := of_decide_eq_true q1; omega
        have w1 := wrap64 ((i : Int) + 1) (by omega) (by omega)
        have hstep : passW kk (capW - (i + 1)) (i + 1) (lookW kk u i) = passW kk capW 0 l := by rw [← hpass, show capW - i = (capW - (i + 1)) + 1 by omega, passW_step hiu]
        have hgl := lookW_gd (kk := kk) (i := i) hgu
        obtain ⟨w, hwi⟩ : ∃ w, u[i]? = some w := ⟨_, List.getElem?_eq_getElem hiu⟩
        obtain ⟨id, p, o, hid, hr, hpp, hia⟩ := ks.elem hwi
        unfold En at hr
        have hgo : o[p]? = some (.string w.1) := by simpa [eWy] using getElem?_of_take hr (j := 0) (by omega)
        have hwg := hgu.2 w (List.mem_of_getElem? hwi)
        have hsz := hgu.size w (List.mem_of_getElem? hwi)
        have hps := look_parts hgu hwi
        rw [lookW_at hwi] at hstep hgl
        simp only [go_sem, ↓reduceIte, Nat.reduceEqDiff, reduceCtorEq, Nat.reduceAdd, Nat.reduceLeDiff, Nat.reduceMul, k1, k3, k6, k7, hia, hid, hgo]
        refine callT_to (fun m' h => f81 (H := s.H) hsz h) rfl kw fun r1 H1 ⟨wp, e1, p1, s1, o1⟩ => ?_
        subst e1
        have l1 := ks.pre p1
        have hd1 : ∀ j ∈ idsOf wp, j ∉ idsOf wv := fun j hj h => by
          have := ks.ids j h
          rcases o1 with rfl | ⟨id, e, ln, cap, rfl, hge⟩
          · simp [idsOf] at hj
          · simp [idsOf] at hj
            omega
        generalize hpq : (partsB w.1).getD [] = ps at *
        have gps : ∀ j, GdW kt (partsW i (ps.take j) u) := fun j => partsW_gd i hgu fun q hq => hps q (List.mem_of_mem_take hq)
        have cps := fun j => (gps j).cap hK
        simp only [go_sem, ↓reduceIte, Nat.reduceEqDiff, reduceCtorEq, Nat.reduceAdd, Nat.reduceLeDiff, Nat.reduceMul, k1, k3, k6, k7, List.getElem?_toArray, ofV, s1.len]
        refine go_for ps.length (fun j s => H <+: s.H ∧ s.ρ 1 = .bx 0 [vt, vk] ∧ s.ρ 6 = .val (.int .i64 l.length) ∧ s.ρ 7 = .val (.int .i64 i) ∧ s.ρ 55 = .val wp ∧ s.ρ 56 = .val (.int .i64 ps.length) ∧ s.ρ 57 = .val (.int .i64 j) ∧ SlS s.H wp ps ∧ ∃ wv, s.ρ 3 = .val wv ∧ SlWy s.H wv (partsW i (ps.take j) u) ∧ OwnS H.length wv ∧ ∀ j ∈ idsOf wp, j ∉ idsOf wv)
          (fun s => H <+: s.H ∧ s.ρ 1 = .bx 0 [vt, vk] ∧ s.ρ 6 = .val (.int .i64 l.length) ∧ s.ρ 7 = .val (.int .i64 i) ∧ ∃ wv, s.ρ 3 = .val wv ∧ SlWy s.H wv (partsW i ps u) ∧ OwnS H.length wv) ?_ ?_ ?_
        · exact ⟨kH.trans p1, by simp [upd, k1], by simp [upd, k6], by simp [upd, k7], by simp [upd], by simp [upd], by simp [upd], s1, wv, by simp [upd, k3], l1, ko, hd1⟩
        · rintro j s hj ⟨kH, k1, k6, k7, k55, k56, k57, kp, wv, k3, ks, ko, kd⟩
          have kw := hw.pre kH
          have hroom := kp.room
          simp only [go_sem, ↓reduceIte, Nat.reduceEqDiff, reduceCtorEq, Nat.reduceAdd, Nat.reduceLeDiff, Nat.reduceMul, k1, k3, k6, k7, k55, k56, k57]
          refine brT.intro (fun q1 => ?_) (fun q1 => ?_) <;> simp only [go_sem, ↓reduceIte, Nat.reduceEqDiff, reduceCtorEq, Nat.reduceAdd, Nat.reduceLeDiff, Nat.reduceMul, k1, k3, k6, k7, k55, k56, k57]
          · have hjl : j < ps.length := by have := of_decide_eq_true q1; omega
            obtain ⟨id, p, o, ho, hr, hia⟩ := kp.str (List.getElem?_eq_getElem hjl)
            have a82 := fun {m draw t d ts Q} => callT_at (m := m) (draw := draw) (s := t) (d := d) (ts := ts) (Q := Q) (f82 (t := ps[j]) ks)
            have w1 := wrap64 ((j : Int) + 1) (by omega) (by omega)
            have hs := partsW_succ (i := i) (l := u) hjl
            simp only [go_sem, ↓reduceIte, Nat.reduceEqDiff, reduceCtorEq, Nat.reduceAdd, Nat.reduceLeDiff, Nat.reduceMul, k1, k3, k6, k7, k55, k56, k57, hia, ho, hr, a82, kw]
            refine brT.intro (fun q2 => ?_) (fun q2 => ?_) <;> simp only [go_sem, ↓reduceIte, Nat.reduceEqDiff, reduceCtorEq, Nat.reduceAdd, Nat.reduceLeDiff, Nat.reduceMul, k1, k3, k6, k7, k55, k56, k57, w1]
            · obtain ⟨v2, H2, d1, d2, d3, d4, d5, d6⟩ := Sl.oneWy (m := m) (ps[j], (i : Int), -1) kp ks kd ko kH.length_le hw (cps j)
              unfold eWy at d1
              rw [d1]
              rotate_left
              · rfl
              · rfl
              · rfl
              simp only [go_sem, ↓reduceIte, Nat.reduceEqDiff, reduceCtorEq, Nat.reduceAdd, Nat.reduceLeDiff, Nat.reduceMul, k1, k3, k6, k7, k55, k56, k57, w1]
              refine ⟨hjl, d6 H (Nat.le_refl _) kH, by simp, d2, v2, rfl, ?_, d4, d5⟩
              rw [hs]
              unfold addW
              rw [if_pos (of_decide_eq_true q2)]
              exact d3
            · refine ⟨hjl, kH, by simp, kp, wv, rfl, ?_, ko, kd⟩
              rw [hs]
              unfold addW
              rw [if_neg (of_decide_eq_false q2)]
              exact ks
          · have : j = ps.length := by have := of_decide_eq_false q1; omega
            subst this
            rw [List.take_length] at ks
            exact ⟨kH, wv, rfl, ks, ko⟩
        · rintro s ⟨kH, k1, k6, k7, wv, k3, ks, ko⟩
          have kw := hw.pre kH
          have gL := gps ps.length
          rw [List.take_length] at gL
          have cL := gL.cap hK
          have kt' := ht.pre kH
          have kk' := hk.pre kH
          have hil2 : i < (partsW i ps u).length := Nat.lt_of_lt_of_le hiu (partsW_pre i ps u).length_le
          have hwi2 : (partsW i ps u)[i]? = some w := by
            obtain ⟨q, hq⟩ := partsW_pre i ps u
            rw [← hq, List.getElem?_append_left hiu]
            exact hwi
          obtain ⟨id, p, o, hid, hr, hpp, hia⟩ := ks.elem hwi2
          unfold En at hr
          have hgo : o[p]? = some (.string w.1) := by simpa [eWy] using getElem?_of_take hr (j := 0) (by omega)
          have a83 := fun {m draw t' d ts Q} => callT_at (m := m) (draw := draw) (s := t') (d := d) (ts := ts) (Q := Q) (f83 (H := s.H) hsz)
          unfold sealedV at a83
          simp only [go_sem, ↓reduceIte, Nat.reduceEqDiff, reduceCtorEq, Nat.reduceAdd, Nat.reduceLeDiff, Nat.reduceMul, k1, k3, k6, k7, hia, hid, hgo, a83, kw]
          unfold sealW at hstep hgl
          cases hB : isB w.1 115 with
          | false =>
            rw [if_neg (by rw [hB]; decide)] at hstep hgl
            have d0 : (false = true) = False := by simp
            simp only [go_sem, ↓reduceIte, Nat.reduceEqDiff, reduceCtorEq, Nat.reduceAdd, Nat.reduceLeDiff, Nat.reduceMul, k1, k3, k6, k7, d0, List.getElem?_toArray, ofV, w1]
            exact ⟨by omega, kH, by simp, wv, _, rfl, ks, ko, hgl, hstep⟩
          | true =>
            rw [if_pos hB] at hstep hgl
            have d0 : (true = true) = True := by simp
            have a82 := fun {m draw t' d ts Q} => callT_at (m := m) (draw := draw) (s := t') (d := d) (ts := ts) (Q := Q) (f82 (t := inS w.1) ks)
            have a82 : ∀ {m : Md} {draw : Bool} {t : St} {d' : Option Nat} {ts : List Tk} {Q : Ex → St → Prop}, t.H = s.H → Wr m s.H → callT EE m draw 82 (some [wv, .string (rest w.1 (1 + (rdV (rest w.1 1)).2))]) t d' ts Q = go EE m ts { t with ρ := upd t.ρ d' (.val (.int .i64 (atW (partsW i ps u) (inS w.1)))) } Q := a82
            have a84 := fun {m draw t' d ts Q} => callT_at (m := m) (draw := draw) (s := t') (d := d) (ts := ts) (Q := Q) (f84 (n := lkS w.1) kt' kk' ks)
            have a84 : ∀ {m : Md} {draw : Bool} {t : St} {d' : Option Nat} {ts : List Tk} {Q : Ex → St → Prop}, t.H = s.H → Wr m s.H → callT EE m draw 84 (some [.agg #[vt, vk], wv, .int .i64 (((rdV (rest w.1 1)).1 : Nat) : Int)]) t d' ts Q = go EE m ts { t with ρ := upd t.ρ d' (.val (.int .i64 (wI (-1) (withW kk (partsW i ps u) (lkS w.1))))) } Q := a84
            simp only [go_sem, ↓reduceIte, Nat.reduceEqDiff, reduceCtorEq, Nat.reduceAdd, Nat.reduceLeDiff, Nat.reduceMul, k1, k3, k6, k7, d0, List.getElem?_toArray, ofV, a82, kw, w1]
            refine brT.intro (fun q2 => ?_) (fun q2 => ?_) <;> simp only [go_sem, ↓reduceIte, Nat.reduceEqDiff, reduceCtorEq, Nat.reduceAdd, Nat.reduceLeDiff, Nat.reduceMul, k1, k3, k6, k7, w1, kt'.vc, kk'.vc]
            · have q2' := of_decide_eq_true q2
              rw [if_neg (by omega)] at hstep hgl
              exact ⟨by omega, kH, by simp, wv, _, rfl, ks, ko, hgl, hstep⟩
            have q2' := of_decide_eq_false q2
            rw [if_pos (by omega)] at hstep hgl
            simp only [go_sem, ↓reduceIte, Nat.reduceEqDiff, reduceCtorEq, Nat.reduceAdd, Nat.reduceLeDiff, Nat.reduceMul, k1, k3, k6, k7, a84, kw]
            have hge := atW_ge (partsW i ps u) (keyB (lkS w.1))
            cases hwq : withW kk (partsW i ps u) (lkS w.1) with
            | none =>
              rw [hwq] at hstep hgl
              have d3 : decide (wI (-1) none = -1) = true := by decide
              simp only [go_sem, ↓reduceIte, Nat.reduceEqDiff, reduceCtorEq, Nat.reduceAdd, Nat.reduceLeDiff, Nat.reduceMul, k1, k3, k6, k7, d3, w1]
              exact ⟨by omega, kH, by simp, wv, _, rfl, ks, ko, hgl, hstep⟩
            | some n =>
              rw [hwq] at hstep hgl
              have hn : n ≠ -1 := by
                unfold withW at hwq
                split at hwq
                · cases hwq; decide
                · split at hwq
                  · cases hwq
                  · cases hwq; omega
              have d3 : decide (wI (-1) (some n) = -1) = false := by
                rw [decide_eq_false_iff_not]
                exact hn
              simp only [go_sem, ↓reduceIte, Nat.reduceEqDiff, reduceCtorEq, Nat.reduceAdd, Nat.reduceLeDiff, Nat.reduceMul, k1, k3, k6, k7, d3, w1]
              obtain ⟨v2, H2, d1, d2, d3, d4, d5, d6⟩ := Sl.oneWy (m := m) (inS w.1, (i : Int), n) nilS ks nilS_d ko kH.length_le hw cL
              unfold eWy at d1
              rw [d1]
              rotate_left
              · rfl
              · rfl
              · rfl
              simp only [go_sem, ↓reduceIte, Nat.reduceEqDiff, reduceCtorEq, Nat.reduceAdd, Nat.reduceLeDiff, Nat.reduceMul, k1, k3, k6, k7, w1]
              exact ⟨by omega, d6 H (Nat.le_refl _) kH, by simp, v2, _, rfl, d3, d4, hgl, hstep⟩
      · rintro s ⟨kH, k1, k6, wv, k3, ks, ko⟩
        simp only [go_sem, ↓reduceIte, Nat.reduceEqDiff, reduceCtorEq, Nat.reduceAdd, Nat.reduceLeDiff, Nat.reduceMul, k1, k3, k6]
        have hpg := passW_gd (kk := kk) (f := capW) (i := 0) hg
        by_cases q1' : (passW kk capW 0 l).length = l.length
        · rw [roundW_stop q1'] at hround
          exact ⟨by omega, kH, wv, _, _, rfl, rfl, ks, ko, hpg.1, fun h => by omega, fun _ => hround⟩
        · obtain ⟨b1, b2, b3⟩ := round_on hK hg hjl q1'
          have := hpg.2.length_le
          exact ⟨by omega, kH, wv, _, _, rfl, rfl, ks, ko, hpg.1, fun _ => ⟨b2, by rw [← b1]; exact hround⟩, fun h => by omega⟩
    · rintro s ⟨kH, wv, k3, ks, ko⟩
      simp only [go_sem, ↓reduceIte, Nat.reduceEqDiff, reduceCtorEq, Nat.reduceAdd, Nat.reduceLeDiff, Nat.reduceMul, k3]
      exact ⟨kH, ks, ko⟩
end Go.Proofs.Ytpdkgbamakileaa.Ev

/- Marks on what is known and on steps; the law Steps. -/
namespace Go.Proofs.Ytpdkgbamakileaa.Ev
set_option linter.all false
open Go
set_option maxRecDepth 4000

theorem roundW_gd {kt : List ByteArray} {kk : List Int} {B : Nat} : ∀ {f : Nat} {l : List Wy}, GdW kt l → GdW kt (roundW kk B f l)
  | 0, l, h => by
    unfold roundW
    split <;> exact (passW_gd h).1
  | f + 1, l, h => by
    by_cases e : (passW kk B 0 l).length = l.length
    · rw [roundW_stop e]
      exact (passW_gd h).1
    · rw [roundW_step e]
      exact roundW_gd (passW_gd h).1
theorem stepsW_len (kt : List ByteArray) (kk : List Int) : (stepsW kt kk).length ≤ capW := by
  cases h : knB kt kk with
  | false => rw [stepsW_no h]; exact Nat.zero_le _
  | true =>
    rw [stepsW_yes h]
    exact (roundW_gd (begW_gd (kn_t.1 h))).cap (kn_t.1 h)

theorem f85 {m : Md} {H : Hp} {v : Value} {l : List Int} {k : Int} (hl : SlI H v l) (hle : l.length ≤ 1048576) (hk : 0 ≤ k) (hk2 : k ≤ 1048577) (hw0 : Wr m H) (hw : ∀ id ∈ idsOf v, m.wr id = true) :
    Fun EE m 85 [v, .int .i64 k] H fun r H' => r = .int .i64 (k + l.length) ∧ (∃ u, SlI H' v u ∧ u.length = l.length) ∧ (∀ j, j ∉ idsOf v → H'[j]? = H[j]?) ∧ H'.length = H.length := by
  refine fun_f rfl rfl k85 (by simp [c85]) ?_
  simp only [go_sem, ↓reduceIte, Nat.reduceEqDiff, reduceCtorEq, Nat.reduceAdd, Nat.reduceLeDiff, Nat.reduceMul, c85]
  refine go_for l.length (fun i s => s.ρ 0 = .val v ∧ s.ρ 1 = .val (.int .i64 (k + i)) ∧ s.ρ 5 = .val (.int .i64 i) ∧ (∃ u, SlI s.H v u ∧ u.length = l.length) ∧ (∀ j, j ∉ idsOf v → s.H[j]? = H[j]?) ∧ s.H.length = H.length)
    (fun s => s.ρ 1 = .val (.int .i64 (k + l.length)) ∧ (∃ u, SlI s.H v u ∧ u.length = l.length) ∧ (∀ j, j ∉ idsOf v → s.H[j]? = H[j]?) ∧ s.H.length = H.length) ⟨by simp [upd, ini], by simp [upd, ini], by simp [upd], ⟨l, hl, rfl⟩, fun _ _ => rfl, rfl⟩ ?_ ?_
  · rintro i s hi ⟨h0, h1, h5, ⟨u, hs, hu⟩, hf, hlen⟩
    simp only [go_sem, ↓reduceIte, Nat.reduceEqDiff, reduceCtorEq, Nat.reduceAdd, Nat.reduceLeDiff, Nat.reduceMul, h0, h1, h5, hs.len, hu]
    refine brT.intro (fun h3 => ?_) (fun h3 => ?_) <;> simp only [go_sem, ↓reduceIte, Nat.reduceEqDiff, reduceCtorEq, Nat.reduceAdd, Nat.reduceLeDiff, Nat.reduceMul, h0, h1, h5]
    · have h4 : i < l.length := by simpa using h3
      obtain ⟨id, p, o, ho, hp, hid, hia, hst⟩ := hs.store (i := i) (by omega)
      have hwid := hw id (by rw [hid]; simp)
      simp only [go_sem, ↓reduceIte, Nat.reduceEqDiff, reduceCtorEq, Nat.reduceAdd, Nat.reduceLeDiff, Nat.reduceMul, h0, h1, h5, hia, ho, hp, hwid, wrap64 ((i : Int) + 1) (by omega) (by omega), wrap64 (k + (i : Int) + 1) (by omega) (by omega)]
      refine ⟨h4, by simp [Int.add_assoc], by simp, ⟨_, hst (k + i) [.int .i64 (k + i)] rfl rfl, by simp [hu]⟩, fun j hj => ?_, by simp [hlen]⟩
      rw [List.getElem?_set_ne, hf j hj]
      rw [hid] at hj
      simp at hj
      omega
    · have h4 : ¬ i < l.length := by simpa using h3
      have hil : i = l.length := by omega
      subst hil
      exact ⟨rfl, ⟨u, hs, hu⟩, hf, hlen⟩
  · rintro s ⟨h1, hs, hf, hlen⟩
    simp only [go_sem, ↓reduceIte, Nat.reduceEqDiff, reduceCtorEq, Nat.reduceAdd, Nat.reduceLeDiff, Nat.reduceMul, h1]
    exact ⟨hs, hf, hlen⟩
theorem f45 {m : Md} {H : Hp} {vt vk : Value} {kt : List ByteArray} {kk : List Int} (ht : SlS H vt kt) (hk : SlI H vk kk) (h1 : kt.length ≤ 1048576) (h2 : kk.length ≤ 1048576) (hd : ∀ j ∈ idsOf vk, j ∉ idsOf vt) (hw0 : Wr m H) (hwt : ∀ id ∈ idsOf vt, m.wr id = true) (hwk : ∀ id ∈ idsOf vk, m.wr id = true) :
    Fun EE m 45 [.agg #[vt, vk], .int .i64 1] H fun r H' => r = .int .i64 (1 + kt.length + kk.length) ∧ (∀ j, j ∉ idsOf vt → j ∉ idsOf vk → H'[j]? = H[j]?) ∧ H'.length = H.length := by
  refine fun_f rfl rfl k45 (by simp [c45]) ?_
  simp only [go_sem, ↓reduceIte, Nat.reduceEqDiff, reduceCtorEq, Nat.reduceAdd, Nat.reduceLeDiff, Nat.reduceMul, c45, ht.vc, hk.vc]
  refine callT_now (f24 ht (by omega) (by omega) hw0 hwt) fun r1 H1 ⟨e1, s1, f1, n1⟩ => ?_
  subst e1
  have n1 : H1.length = H.length := n1
  have k1 := hk.keep hd f1
  have kw : Wr m H1 := fun id hid => hw0 id (by omega)
  simp only [go_sem, ↓reduceIte, Nat.reduceEqDiff, reduceCtorEq, Nat.reduceAdd, Nat.reduceLeDiff, Nat.reduceMul, ht.vc, hk.vc]
  refine callT_now (f85 k1 h2 (by omega) (by omega) kw hwk) fun r2 H2 ⟨e2, s2, f2, n2⟩ => ?_
  subst e2
  have n2 : H2.length = H1.length := n2
  simp only [go_sem, ↓reduceIte, Nat.reduceEqDiff, reduceCtorEq, Nat.reduceAdd, Nat.reduceLeDiff, Nat.reduceMul]
  exact ⟨fun j h3 h4 => by rw [f2 j h4, f1 j h3], by omega⟩

def markWy (n : Nat) : List Wy := (List.range n).map fun (j : Nat) => (markT (1 + 3 * (j : Int)), 1 + 3 * (j : Int) + 1, 1 + 3 * (j : Int) + 1 + 1)
theorem markWy_len (n : Nat) : (markWy n).length = n := by simp [markWy]
theorem markWy_get {n i : Nat} (h : i < n) : (markWy n)[i]? = some (markT (1 + 3 * (i : Int)), 1 + 3 * (i : Int) + 1, 1 + 3 * (i : Int) + 1 + 1) := by simp [markWy, h]
theorem markWy_succ (n : Nat) : markWy (n + 1) = markWy n ++ [(markT (1 + 3 * (n : Int)), 1 + 3 * (n : Int) + 1, 1 + 3 * (n : Int) + 1 + 1)] := by simp [markWy, List.range_succ]

theorem f46 {m : Md} {H : Hp} {v : Value} {l : List Wy} (hl : SlWy H v l) (hle : l.length ≤ capW) (hw0 : Wr m H) (hw : ∀ id ∈ idsOf v, m.wr id = true) :
    Fun EE m 46 [v, .int .i64 1] H fun r H' => r = .int .i64 (1 + 3 * l.length) ∧ SlWy H' v (markWy l.length) ∧ (∀ j, j ∉ idsOf v → H'[j]? = H[j]?) ∧ H'.length = H.length := by
  refine fun_f rfl rfl k46 (by simp [c46]) ?_
  have hc := capP
  simp only [go_sem, ↓reduceIte, Nat.reduceEqDiff, reduceCtorEq, Nat.reduceAdd, Nat.reduceLeDiff, Nat.reduceMul, c46]
  refine go_for l.length (fun i s => s.ρ 0 = .val v ∧ s.ρ 1 = .val (.int .i64 (1 + 3 * (i : Int))) ∧ s.ρ 5 = .val (.int .i64 i) ∧ SlWy s.H v (markWy i ++ l.drop i) ∧ (∀ j, j ∉ idsOf v → s.H[j]? = H[j]?) ∧ s.H.length = H.length)
    (fun s => s.ρ 1 = .val (.int .i64 (1 + 3 * (l.length : Int))) ∧ SlWy s.H v (markWy l.length) ∧ (∀ j, j ∉ idsOf v → s.H[j]? = H[j]?) ∧ s.H.length = H.length) (by simpa [upd, ini, markWy] using hl) ?_ ?_
  · rintro i s hi ⟨h0, h1, h5, hs, hf, hn⟩
    have hll : (markWy i ++ l.drop i).length = l.length := by rw [List.length_append, markWy_len, List.length_drop]; omega
    simp only [go_sem, ↓reduceIte, Nat.reduceEqDiff, reduceCtorEq, Nat.reduceAdd, Nat.reduceLeDiff, Nat.reduceMul, h0, h1, h5, hs.len, hll]
    refine brT.intro (fun h3 => ?_) (fun h3 => ?_) <;> simp only [go_sem, ↓reduceIte, Nat.reduceEqDiff, reduceCtorEq, Nat.reduceAdd, Nat.reduceLeDiff, Nat.reduceMul, h0, h1, h5]
    · have h4 : i < l.length := by simpa using h3
      obtain ⟨id, p, o, ho, hp, hid, hia, hst⟩ := hs.store (i := i) (by omega)
      have hwid := hw id (by rw [hid]; simp)
      have hidlt := (List.getElem?_eq_some_iff.1 ho).1
      have hset : ∀ q, (s.H.set id q)[id]? = some q := fun q => List.getElem?_set_self hidlt
      have hp1 : p + 1 ≤ o.length := by omega
      have hp2 : p + 1 + 1 ≤ o.length := by omega
      have hp3 : p + 2 + 1 ≤ o.length := by omega
      have k1 : IntKind.i64.wrap (1 + 3 * (i : Int) + 1) = 1 + 3 * (i : Int) + 1 := wrap64 _ (by omega) (by omega)
      have k2 : IntKind.i64.wrap (1 + 3 * (i : Int) + 1 + 1) = 1 + 3 * (i : Int) + 1 + 1 := wrap64 _ (by omega) (by omega)
      have k3 : IntKind.i64.wrap (1 + 3 * (i : Int) + 1 + 1 + 1) = 1 + 3 * (i : Int) + 1 + 1 + 1 := wrap64 _ (by omega) (by omega)
      have ws : Wr m s.H := fun j hj => hw0 j (by omega)
      have a62 := fun {m draw t d ts Q} => callT_at (m := m) (draw := draw) (s := t) (d := d) (ts := ts) (Q := Q) (f62 (H := s.H) (k := 1 + 3 * (i : Int)) (by omega))
      simp only [go_sem, ↓reduceIte, Nat.reduceEqDiff, reduceCtorEq, Nat.reduceAdd, Nat.reduceLeDiff, Nat.reduceMul, h0, h1, h5, a62, ws, hia, ho, hp1, hwid, hset, spl_length, hp2, hp3, k1, k2, k3, List.set_set, wrap64 ((i : Int) + 1) (by omega) (by omega)]
      refine ⟨h4, by simp; omega, by simp, ?_, fun j hj => ?_, by simp [hn]⟩
      · have := hst (markT (1 + 3 * (i : Int)), 1 + 3 * (i : Int) + 1, 1 + 3 * (i : Int) + 1 + 1) [.string (markT (1 + 3 * (i : Int))), .int .i64 (1 + 3 * (i : Int) + 1), .int .i64 (1 + 3 * (i : Int) + 1 + 1)] rfl (by simp only [En, eWy])
        rw [List.set_append_right _ _ (by rw [markWy_len]; omega), markWy_len, Nat.sub_self, List.drop_eq_getElem_cons h4, List.set_cons_zero] at this
        rw [markWy_succ, List.append_assoc, List.singleton_append]
        exact this
      · rw [hid] at hj
        have hj2 : id ≠ j := fun e => hj (by simp [e])
        rw [List.getElem?_set_ne hj2]
        exact hf j (by rw [hid]; exact hj)
    · have h4 : ¬ i < l.length := by simpa using h3
      have hil : i = l.length := by omega
      subst hil
      rw [List.drop_length, List.append_nil] at hs
      exact ⟨rfl, hs, hf, hn⟩
  · rintro s ⟨h1, hs, hf, hn⟩
    simp only [go_sem, ↓reduceIte, Nat.reduceEqDiff, reduceCtorEq, Nat.reduceAdd, Nat.reduceLeDiff, Nat.reduceMul, h1]
    exact ⟨hs, hf, hn⟩

theorem f47 {H : Hp} {v : Value} {n : Nat} (hl : SlWy H v (markWy n)) (hn : n ≤ capW) : Scal EE 47 [v, .int .i64 1] H (.int .i64 (1 + 3 * n)) := by
  refine scal_ok rfl rfl k47 (by simp [c47]) rfl fun m hw => ?_
  have hc := capP
  simp only [go_sem, ↓reduceIte, Nat.reduceEqDiff, reduceCtorEq, Nat.reduceAdd, Nat.reduceLeDiff, Nat.reduceMul, c47]
  refine go_for n (fun i s => s.H = H ∧ s.ρ 0 = .val v ∧ s.ρ 1 = .val (.int .i64 (1 + 3 * (i : Int))) ∧ s.ρ 5 = .val (.int .i64 i)) (fun s => s.H = H ∧ s.ρ 1 = .val (.int .i64 (1 + 3 * n))) (by simp [upd, ini]) ?_ ?_
  · rintro i s hi ⟨hH, h0, h1, h5⟩
    simp only [go_sem, ↓reduceIte, Nat.reduceEqDiff, reduceCtorEq, Nat.reduceAdd, Nat.reduceLeDiff, Nat.reduceMul, h0, h1, h5, hl.len, markWy_len]
    refine brT.intro (fun h3 => ?_) (fun h3 => ?_) <;> simp only [go_sem, ↓reduceIte, Nat.reduceEqDiff, reduceCtorEq, Nat.reduceAdd, Nat.reduceLeDiff, Nat.reduceMul, h0, h1, h5]
    · have h4 : i < n := by simpa using h3
      obtain ⟨id, p, o, ho, hr, hp, hia⟩ := hl.elem (markWy_get h4)
      unfold En at hr
      have g0 : o[p]? = some (.string (markT (1 + 3 * (i : Int)))) := by simpa [eWy] using getElem?_of_take hr (j := 0) (by omega)
      have g1 : o[p + 1]? = some (.int .i64 (1 + 3 * (i : Int) + 1)) := by simpa [eWy] using getElem?_of_take hr (j := 1) (by omega)
      have g2 : o[p + 2]? = some (.int .i64 (1 + 3 * (i : Int) + 1 + 1)) := by simpa [eWy] using getElem?_of_take hr (j := 2) (by omega)
      have hlt := (List.getElem?_eq_some_iff.1 ho).1
      have k1 : IntKind.i64.wrap (1 + 3 * (i : Int) + 1) = 1 + 3 * (i : Int) + 1 := wrap64 _ (by omega) (by omega)
      have k2 : IntKind.i64.wrap (1 + 3 * (i : Int) + 1 + 1) = 1 + 3 * (i : Int) + 1 + 1 := wrap64 _ (by omega) (by omega)
      have k3 : IntKind.i64.wrap (1 + 3 * (i : Int) + 1 + 1 + 1) = 1 + 3 * (i : Int) + 1 + 1 + 1 := wrap64 _ (by omega) (by omega)
      have a62 := fun {m draw t d ts Q} => callT_at (m := m) (draw := draw) (s := t) (d := d) (ts := ts) (Q := Q) (f62 (H := H) (k := 1 + 3 * (i : Int)) (by omega))
      refine go_draw2 H.length ?_
      simp only [go_sem, ↓reduceIte, Nat.reduceEqDiff, reduceCtorEq, Nat.reduceAdd, Nat.reduceLeDiff, Nat.reduceMul, h0, h1, h5, hia, hH, ho, g0, a62, hw, hlt]
      refine ⟨by rfl, ?_⟩
      simp only [go_sem, ↓reduceIte, Nat.reduceEqDiff, reduceCtorEq, Nat.reduceAdd, Nat.reduceLeDiff, Nat.reduceMul, h0, h1, h5, hia, hH, ho, g1, g2, k1, k2, k3, wrap64 ((i : Int) + 1) (by omega) (by omega)]
      exact ⟨h4, by simp; omega, by simp⟩
    · have h4 : ¬ i < n := by simpa using h3
      have hil : i = n := by omega
      subst hil
      exact ⟨hH, rfl⟩
  · rintro s ⟨hH, h1⟩
    simp only [go_sem, ↓reduceIte, Nat.reduceEqDiff, reduceCtorEq, Nat.reduceAdd, Nat.reduceLeDiff, Nat.reduceMul, hH, h1]

theorem f38o {m : Md} {H : Hp} {vt vk : Value} {kt : List ByteArray} {kk : List Int} (ht : SlS H vt kt) (hk : SlI H vk kk) (h1 : kt.length ≤ 1048576) (h2 : kk.length ≤ 1048576) (hw : Wr m H) :
    Fun EE m 38 [.agg #[vt, vk]] H fun r H' => ∃ ut uk, r = .agg #[ut, uk] ∧ H <+: H' ∧ SlS H' ut kt ∧ SlI H' uk kk ∧ OwnS H.length ut ∧ OwnS H.length uk ∧ ∀ j ∈ idsOf uk, j ∉ idsOf ut := by
  refine fun_f rfl rfl k38 (by simp [c38]) ?_
  simp only [go_sem, ↓reduceIte, Nat.reduceEqDiff, reduceCtorEq, Nat.reduceAdd, Nat.reduceLeDiff, Nat.reduceMul, c38, ht.vc, hk.vc]
  refine callT_to (fun m' h => f28 ht h1 h) rfl hw fun r1 H1 ⟨p1, s1, o1⟩ => ?_
  have w1 := hw.pre p1
  have k1 := hk.pre p1
  simp only [go_sem, ↓reduceIte, Nat.reduceEqDiff, reduceCtorEq, Nat.reduceAdd, Nat.reduceLeDiff, Nat.reduceMul, ht.vc, hk.vc, s1.vc]
  refine callT_to (fun m' h => f74 k1 h2 h) rfl w1 fun r2 H2 ⟨p2, s2, o2⟩ => ?_
  have s12 := s1.pre p2
  simp only [go_sem, ↓reduceIte, Nat.reduceEqDiff, reduceCtorEq, Nat.reduceAdd, Nat.reduceLeDiff, Nat.reduceMul, s12.vc, s2.vc]
  have hle := p1.length_le
  refine ⟨_, _, rfl, p1.trans p2, s12, s2, o1, ?_, fun j hj h => ?_⟩
  · rcases o2 with h | ⟨id, e, ln, cap, h, hge⟩
    · exact .inl h
    · exact .inr ⟨id, e, ln, cap, h, by omega⟩
  · have := s1.ids j h
    have := own_ge o2 j hj
    omega
end Go.Proofs.Ytpdkgbamakileaa.Ev

/- The law Steps. -/
namespace Go.Proofs.Ytpdkgbamakileaa.Ev
set_option linter.all false
open Go
set_option maxRecDepth 4000

theorem law9 {m : Md} {H : Hp} {v0 : Value} {k : List ByteArray × List Int} (e0 : ∃ wt wk, v0 = .agg #[wt, wk] ∧ SlS H wt k.1 ∧ SlI H wk k.2) (hz0 : ∀ z ∈ k.1, z.size ≤ maxLen) (hw : Wr m H) : Fun EE m 9 [v0] H fun r _ => r = .bool true := by
  obtain ⟨vt, vk, rfl, ht, hk⟩ := e0
  obtain ⟨kt, kk⟩ := k
  simp only at ht hk hz0
  have hm : (maxLen : Nat) ≤ 9223372036854775807 := by decide
  have hc := capP
  refine fun_f rfl rfl k9 (by simp [c9]) ?_
  simp only [go_sem, ↓reduceIte, Nat.reduceEqDiff, reduceCtorEq, Nat.reduceAdd, Nat.reduceLeDiff, Nat.reduceMul, c9, ht.vc, hk.vc]
  refine callT_to (fun m' h => f35 ht hk (fun z hz => by have := hz0 z hz; omega) (by omega) (by omega) m' h) rfl hw fun r H' ⟨⟨n, e, hn⟩, e2⟩ => ?_
  subst e; subst e2
  simp only [go_sem, ↓reduceIte, Nat.reduceEqDiff, reduceCtorEq, Nat.reduceAdd, Nat.reduceLeDiff, Nat.reduceMul]
  refine brT.intro (fun q0 => ?_) (fun q0 => ?_) <;> simp only [go_sem, ↓reduceIte, Nat.reduceEqDiff, reduceCtorEq, Nat.reduceAdd, Nat.reduceLeDiff, Nat.reduceMul, ht.vc, hk.vc]
  obtain ⟨a1, a2, a3, a4⟩ := hn (by have := of_decide_eq_false q0; omega)
  have hzt : ∀ x ∈ kt, x.size ≤ 4611686018427387904 := fun x hx => by have := a3 x hx; omega
  have hlen := stepsW_len kt kk
  -- the reference
  refine callT_to (fun m' h => f38 ht hk a2 a4 h) rfl hw fun r1 H1 ⟨u1, u2, e1, p1, s1, s2⟩ => ?_
  subst e1
  have w1 := hw.pre p1
  have t1 := ht.pre p1
  have y1 := hk.pre p1
  simp only [go_sem, ↓reduceIte, Nat.reduceEqDiff, reduceCtorEq, Nat.reduceAdd, Nat.reduceLeDiff, Nat.reduceMul, s1.vc, s2.vc]
  refine callT_to (fun m' h => f43 s1 s2 hzt h) rfl w1 fun vA H2 ⟨p2, sA, oA⟩ => ?_
  have w2 := w1.pre p2
  have t2 := t1.pre p2
  have y2 := y1.pre p2
  simp only [go_sem, ↓reduceIte, Nat.reduceEqDiff, reduceCtorEq, Nat.reduceAdd, Nat.reduceLeDiff, Nat.reduceMul, t2.vc, y2.vc]
  -- the program
  refine callT_to (fun m' h => f38o t2 y2 a2 a4 h) rfl w2 fun r3 H3 ⟨ut, uk, e3, p3, st, sk, ot, ok, hd⟩ => ?_
  subst e3
  have w3 := w2.pre p3
  simp only [go_sem, ↓reduceIte, Nat.reduceEqDiff, reduceCtorEq, Nat.reduceAdd, Nat.reduceLeDiff, Nat.reduceMul, st.vc, sk.vc]
  refine callT_to (fun m' h => f44 st sk hzt h) rfl w3 fun vB H4 ⟨p4, sB, oB⟩ => ?_
  have w4 := w3.pre p4
  have A4 := (sA.pre p3).pre p4
  have T4 := st.pre p4
  have K4 := sk.pre p4
  have t4 := (t2.pre p3).pre p4
  have y4 := (y2.pre p3).pre p4
  generalize hS : stepsW kt kk = S at *
  have a42 := fun {m draw t d ts Q} => callT_at (m := m) (draw := draw) (s := t) (d := d) (ts := ts) (Q := Q) (f42 sB A4)
  have hd2 : decide (S = S) = true := by simp
  simp only [go_sem, ↓reduceIte, Nat.reduceEqDiff, reduceCtorEq, Nat.reduceAdd, Nat.reduceLeDiff, Nat.reduceMul, a42, w4, hd2]
  refine go_draw ?_
  simp only [go_sem, ↓reduceIte, Nat.reduceEqDiff, reduceCtorEq, Nat.reduceAdd, Nat.reduceLeDiff, Nat.reduceMul, T4.vc, K4.vc, t4.vc, y4.vc]
  refine callT_to (fun m' h => f38 t4 y4 a2 a4 h) rfl w4 fun r5 H5 ⟨u5, u6, e5, p5, s7, s8⟩ => ?_
  subst e5
  have w5 := w4.pre p5
  have T5 := T4.pre p5
  have K5 := K4.pre p5
  have A5 := A4.pre p5
  have B5 := sB.pre p5
  have a41 := fun {m draw t d ts Q} => callT_at (m := m) (draw := draw) (s := t) (d := d) (ts := ts) (Q := Q) (f41 T5 K5 s7 s8)
  have hd1 : decide (kt = kt ∧ kk = kk) = true := by simp
  simp only [go_sem, ↓reduceIte, Nat.reduceEqDiff, reduceCtorEq, Nat.reduceAdd, Nat.reduceLeDiff, Nat.reduceMul, T5.vc, K5.vc, a41, w5, hd1]
  refine ⟨by rfl, ?_⟩
  have n1 := p1.length_le; have n2 := p2.length_le; have n3 := p3.length_le; have n4 := p4.length_le; have n5 := p5.length_le
  -- marks on what is known
  refine callT_now (f45 T5 K5 a2 a4 hd w5 (fun id hid => hw id (by have := own_ge ot id hid; omega)) (fun id hid => hw id (by have := own_ge ok id hid; omega))) fun r6 H6 ⟨e6, f6, g6⟩ => ?_
  subst e6
  have g6 : H6.length = H5.length := g6
  have w6 : Wr m H6 := fun id hid => hw id (by omega)
  have keep6 : ∀ {v : Value} {l : List Wy}, SlWy H5 v l → (∀ j ∈ idsOf v, j ∉ idsOf ut ∧ j ∉ idsOf uk) → SlWy H6 v l := fun {v l} h hdv => h.frame (fun _ _ _ h => h) (fun id off e len cap hv => by
    have hm : id ∈ idsOf v := by subst hv; simp [idsOf]
    exact f6 id (hdv id hm).1 (hdv id hm).2)
  have B6 := keep6 B5 (fun j hj => ⟨fun h => by have := own_ge oB j hj; have := st.ids j h; omega, fun h => by have := own_ge oB j hj; have := sk.ids j h; omega⟩)
  have A6 := keep6 A5 (fun j hj => ⟨fun h => by have := sA.ids j hj; have := own_ge ot j h; omega, fun h => by have := sA.ids j hj; have := own_ge ok j h; omega⟩)
  have hneg : decide ((1 + (kt.length : Int) + (kk.length : Int)) < 0) = false := decide_eq_false (by omega)
  have b42 := fun {m draw t d ts Q} => callT_at (m := m) (draw := draw) (s := t) (d := d) (ts := ts) (Q := Q) (f42 B6 A6)
  simp only [go_sem, ↓reduceIte, Nat.reduceEqDiff, reduceCtorEq, Nat.reduceAdd, Nat.reduceLeDiff, Nat.reduceMul, hneg, b42, w6, hd2]
  -- marks on the steps
  refine callT_now (f46 B6 hlen w6 (fun id hid => hw id (by have := own_ge oB id hid; omega))) fun r7 H7 ⟨e7, B7, f7, g7⟩ => ?_
  subst e7
  have g7 : H7.length = H6.length := g7
  have w7 : Wr m H7 := fun id hid => hw id (by omega)
  have A7 := A6.keep (w := vB) (fun j hj h => by have := sA.ids j hj; have := own_ge oB j h; omega) f7
  have q6 : H' <+: H6 := pre_keep (p1.trans (p2.trans (p3.trans (p4.trans p5)))) (fun j hj => f6 j (own_notin ot (by omega)) (own_notin ok (by omega))) (by omega)
  have q7 : H' <+: H7 := pre_keep q6 (fun j hj => f7 j (own_notin oB (by omega))) (by omega)
  have t7 := ht.pre q7
  have y7 := hk.pre q7
  have a47 := fun {m draw t d ts Q} => callT_at (m := m) (draw := draw) (s := t) (d := d) (ts := ts) (Q := Q) (f47 B7 hlen)
  have hq : decide ((1 + 3 * (S.length : Int)) < 0) = false := decide_eq_false (by omega)
  simp only [go_sem, ↓reduceIte, Nat.reduceEqDiff, reduceCtorEq, Nat.reduceAdd, Nat.reduceLeDiff, Nat.reduceMul, a47, w7, hq, t7.vc, y7.vc, decide_true, Bool.not_true]
  refine callT_to (fun m' h => f38 t7 y7 a2 a4 h) rfl w7 fun r8 H8 ⟨u7, u8, e8, p8, s9, s10⟩ => ?_
  subst e8
  have w8 := w7.pre p8
  simp only [go_sem, ↓reduceIte, Nat.reduceEqDiff, reduceCtorEq, Nat.reduceAdd, Nat.reduceLeDiff, Nat.reduceMul, s9.vc, s10.vc]
  refine callT_to (fun m' h => f44 s9 s10 hzt h) rfl w8 fun vC H9 ⟨p9, sC, oC⟩ => ?_
  rw [hS] at sC
  have w9 := w8.pre p9
  have A9 := (A7.pre p8).pre p9
  have B9 := (B7.pre p8).pre p9
  have c42 := fun {m draw t d ts Q} => callT_at (m := m) (draw := draw) (s := t) (d := d) (ts := ts) (Q := Q) (f42 sC A9)
  have b47 := fun {m draw t d ts Q} => callT_at (m := m) (draw := draw) (s := t) (d := d) (ts := ts) (Q := Q) (f47 B9 hlen)
  simp only [go_sem, ↓reduceIte, Nat.reduceEqDiff, reduceCtorEq, Nat.reduceAdd, Nat.reduceLeDiff, Nat.reduceMul, c42, b47, w9, hd2, hq, decide_true, Bool.not_true]
end Go.Proofs.Ytpdkgbamakileaa.Ev
