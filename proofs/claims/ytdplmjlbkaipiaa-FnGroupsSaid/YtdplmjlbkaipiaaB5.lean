/- Texts of this proof, laid one behind the other: what each shows stands at its head. -/
import Derived.Test.YtdplmjlbkaipiaaB3
import Derived.Test.YtdplmjlbkaipiaaB4
/- Who belongs to a group: the program's way; the laws UsersOf and GroupsOf. -/
namespace Go.Proofs.Ytdplmjlbkaipiaa.Ev
set_option linter.all false
open Go
set_option maxRecDepth 4000

theorem rn_bel1 {g : List Group} {i x : Int} : ∀ n, Rn (PG g) n i x → x = i ∨ Bel g i x
  | 0, h => .inl (show i = x from h).symm
  | n + 1, h => by
    rcases Rn.head.1 h with h | ⟨c, hp, h⟩
    · exact rn_bel1 n h
    · exact .inr ⟨n, c, hp, h⟩
theorem rn_bel {g : List Group} {i x : Int} : (∃ n, Rn (PG g) n i x) ↔ (x = i ∨ Bel g i x) := by
  constructor
  · exact fun ⟨n, h⟩ => rn_bel1 n h
  · rintro (rfl | ⟨n, y, hp, h⟩)
    · exact ⟨0, rfl⟩
    · exact ⟨n + 1, Rn.head.2 (.inr ⟨y, hp, h⟩)⟩

theorem f47 {m : Md} {H : Hp} {v : Value} {g : List Group} {i : Int} (hg : SlG H v g) (hi : -9223372036854775808 ≤ i ∧ i < 9223372036854775808) (hw : Wr m H) : Fun EE m 47 [v, .int .i64 i] H fun r H' => FreshS eI 1 H r H' (usersL g i) := by
  refine fun_f rfl rfl k47 (by simp [c47]) ?_
  have p0 : H <+: H ++ [[]] := List.prefix_append _ _
  have s0 : SlI (H ++ [[]]) (.slice (some ⟨H.length, 0, some 1⟩) 0 (0 * 1)) [] := own_new
  have o0 : OwnS H.length (.slice (some ⟨H.length, 0, some 1⟩) 0 (0 * 1)) := .inr ⟨_, _, _, _, rfl, Nat.le_refl _⟩
  have i0 : idsOf (.slice (some ⟨H.length, 0, some 1⟩) 0 (0 * 1)) = [H.length] := rfl
  generalize hwv : Value.slice (some ⟨H.length, 0, some 1⟩) 0 (0 * 1) = wv0 at s0 o0 i0
  have hg0 := hg.preG p0
  have w0 := hw.pre p0
  have hroom := hg.room
  have a41 := fun {m draw s d ts Q} => callT_at (m := m) (draw := draw) (s := s) (d := d) (ts := ts) (Q := Q) (f41 hg0)
  have none : ¬ (groupsOk g = true ∧ 0 ≤ i ∧ i < g.length) → FreshS eI 1 H wv0 (H ++ [[]]) (usersL g i) := fun h => by
    have : usersL g i = [] := by unfold usersL; rw [if_neg h]
    rw [this]
    exact ⟨p0, s0, o0⟩
  simp only [go_sem, ↓reduceIte, Nat.reduceEqDiff, reduceCtorEq, Nat.reduceAdd, Nat.reduceLeDiff, Nat.reduceMul, c47, fillL, hwv, a41, w0]
  refine brT.intro (fun hok => ?_) (fun hok => ?_) <;> simp only [go_sem, ↓reduceIte, Nat.reduceEqDiff, reduceCtorEq, Nat.reduceAdd, Nat.reduceLeDiff, Nat.reduceMul, hok, hg0.len, c78', w0, wrap64 ((g.length : Int) - 1) (by omega) (by omega)]
  rotate_left
  · exact none (fun h => by rw [hok] at h; exact absurd h.1 (by simp))
  refine brT.intro (fun q1 => ?_) (fun q1 => ?_) <;> simp only [go_sem, ↓reduceIte, Nat.reduceEqDiff, reduceCtorEq, Nat.reduceAdd, Nat.reduceLeDiff, Nat.reduceMul, hok, q1, fillL]
  rotate_left
  · exact none (fun h => by simp at q1; have := q1 h.2.1; omega)
  have q1' : 0 ≤ i ∧ i ≤ (g.length : Int) - 1 := by simpa using q1
  obtain ⟨a, rfl⟩ : ∃ a : Nat, i = a := nat_of q1'.1
  have ha : a < g.length := by omega
  have hU : usersL g a = selN (userP g a) 31 := by
    unfold usersL
    rw [if_pos ⟨hok, by omega, by omega⟩]
  rw [hU]
  have hg8 := (groupsOk_in hok).1
  have pa : H ++ [[]] <+: H ++ [[]] ++ [[.int .i64 a]] := List.prefix_append _ _
  have sa : SlI (H ++ [[]] ++ [[.int .i64 a]]) (.slice (some ⟨(H ++ [[]]).length, 0, some 1⟩) 1 (1 * 1)) [(a : Int)] := .inr ⟨(H ++ [[]]).length, 0, 1, [.int .i64 a], rfl, by simp, by simp, by simp, by simp, fun j b hb => by
    cases j with
    | zero => simp at hb; subst hb; rfl
    | succ j => simp at hb⟩
  refine callT_to (fun m' h => f81 (hg0.preG pa) hok sa (by simp) (fun x hx => by rw [List.mem_singleton] at hx; omega) h) rfl (w0.pre pa) fun bv H1 ⟨gl, ⟨p1, s1, o1⟩, hb⟩ => ?_
  have hgl := hb.len
  simp only [go_sem, ↓reduceIte, Nat.reduceEqDiff, reduceCtorEq, Nat.reduceAdd, Nat.reduceLeDiff, Nat.reduceMul, s1.len]
  refine go_for gl.length (fun t s => H <+: s.H ∧ s.ρ 0 = .val v ∧ s.ρ 24 = .val bv ∧ s.ρ 25 = .val (.int .i64 gl.length) ∧ s.ρ 26 = .val (.int .i64 t) ∧ SlI s.H bv gl ∧ ∃ (wv : Value) (ol : List Int), s.ρ 5 = .val wv ∧ SlI s.H wv ol ∧ OwnS H.length wv ∧ (∀ j ∈ idsOf wv, j ∉ idsOf bv) ∧ ol.length ≤ 31 * t ∧ ∀ u, u ∈ ol ↔ ∃ (k : Nat) (x : Group), (k : Int) ∈ gl.take t ∧ g[k]? = some x ∧ u ∈ x.1)
    (fun s => H <+: s.H ∧ ∃ (wv : Value) (ol : List Int), s.ρ 5 = .val wv ∧ SlI s.H wv ol ∧ OwnS H.length wv ∧ ol.length ≤ 31 * gl.length ∧ ∀ u, u ∈ ol ↔ ∃ (k : Nat) (x : Group), (k : Int) ∈ gl ∧ g[k]? = some x ∧ u ∈ x.1) ?_ ?_ ?_
  · refine ⟨p0.trans (pa.trans p1), by simp [upd, ini], by simp [upd], by simp [upd], by simp [upd], s1, wv0, [], by simp [upd], s0.pre (pa.trans p1), o0, fun j hj hm => ?_, by simp, by simp⟩
    have := own_ge o1 j hm
    rw [i0] at hj
    simp at hj this
    omega
  · rintro t s ht ⟨kH, k0, k24, k25, k26, kb, wv, ol, k5, ks, ko, kd, kl, km⟩
    have kg := hg.preG kH
    have kw := hw.pre kH
    simp only [go_sem, ↓reduceIte, Nat.reduceEqDiff, reduceCtorEq, Nat.reduceAdd, Nat.reduceLeDiff, Nat.reduceMul, k0, k5, k24, k25, k26]
    refine brT.intro (fun c1 => ?_) (fun c1 => ?_) <;> simp only [go_sem, ↓reduceIte, Nat.reduceEqDiff, reduceCtorEq, Nat.reduceAdd, Nat.reduceLeDiff, Nat.reduceMul, k0, k5, k24, k25, k26]
    · have htl : t < gl.length := by have := of_decide_eq_true c1; omega
      obtain ⟨id, p, o, hoo, hre, hia⟩ := kb.int (List.getElem?_eq_getElem htl)
      have ham := (hb.at_ _ (List.getElem_mem htl)).1
      obtain ⟨b, hbb⟩ := nat_of ham.1
      rw [hbb] at hre ham
      have hbl : b < g.length := by omega
      obtain ⟨X, hX⟩ : ∃ X, g[b]? = some X := ⟨_, List.getElem?_eq_getElem hbl⟩
      obtain ⟨idX, pX, oX, uX, zX, hoX, huX, _, hrX, hpX, hsuX, hsX, hiaX⟩ := kg.group hX
      have hX31 := rise_len ((groupsOk_in hok).2 b X hX).1 (by omega)
      obtain ⟨v2, H2, e1, e2, e3, e4, e5, e6, e7⟩ := ks.joinI (m := m) hsuX ko kH.length_le hw (by omega)
      simp only [go_sem, ↓reduceIte, Nat.reduceEqDiff, reduceCtorEq, Nat.reduceAdd, Nat.reduceLeDiff, Nat.reduceMul, k0, k5, k24, k25, k26, hia, hoo, hre, hiaX, hoX, huX]
      rw [e1]
      rotate_left
      · rfl
      · rfl
      · rfl
      simp only [go_sem, ↓reduceIte, Nat.reduceEqDiff, reduceCtorEq, Nat.reduceAdd, Nat.reduceLeDiff, Nat.reduceMul, k0, k5, k24, k25, k26, wrap64 ((t : Int) + 1) (by omega) (by omega)]
      refine ⟨htl, e7 H (Nat.le_refl _) kH, by simp, kb.aside (fun j hj hm => kd j hm hj) e4, v2, _, rfl, e2, e3, fun j hj hm => ?_, by rw [List.length_append]; omega, fun u => ?_⟩
      · rcases e6 j hj with h | h
        · exact kd j h hm
        · have := kb.ids j hm
          omega
      · have htk : gl.take (t + 1) = gl.take t ++ [(b : Int)] := by rw [List.take_succ_eq_append_getElem htl, hbb]
        rw [List.mem_append, km u, htk]
        constructor
        · rintro (⟨k, x, h1, h2⟩ | h)
          · exact ⟨k, x, List.mem_append_left _ h1, h2⟩
          · exact ⟨b, X, by simp, hX, h⟩
        · rintro ⟨k, x, h1, h2, h3⟩
          rcases List.mem_append.1 h1 with h1 | h1
          · exact .inl ⟨k, x, h1, h2, h3⟩
          · rw [List.mem_singleton] at h1
            have : k = b := by omega
            subst this
            rw [hX] at h2
            cases h2
            exact .inr h3
    · have : t = gl.length := by have := of_decide_eq_false c1; omega
      subst this
      rw [List.take_length] at km
      exact ⟨kH, wv, ol, rfl, ks, ko, kl, km⟩
  · rintro s ⟨kH, wv, ol, k5, ks, ko, kl, km⟩
    simp only [go_sem, ↓reduceIte, Nat.reduceEqDiff, reduceCtorEq, Nat.reduceAdd, Nat.reduceLeDiff, Nat.reduceMul, k5]
    refine callT_now (f66 ks (by omega) (fun id hid => hw id (own_ge ko id hid))) fun r H2 h2 => ?_
    simp only [go_sem, ↓reduceIte, Nat.reduceEqDiff, reduceCtorEq, Nat.reduceAdd, Nat.reduceLeDiff, Nat.reduceMul]
    have hr : rsn ol = selN (userP g a) 31 := by
      refine (rsn_asc ol).eq (selN_asc _ _) fun u => ?_
      rw [rsn_mem, km u, selN_mem, userP_t]
      constructor
      · rintro ⟨k, x, h1, h2, h3⟩
        have h4 := ((groupsOk_in hok).2 k x h2).1.1 u h3
        unfold inT at h4
        obtain ⟨y, hy, n, hn⟩ := (hb.end_ _).1 h1
        rw [List.mem_singleton] at hy
        subst hy
        exact ⟨h4.1, by omega, k, x, h2, rn_bel.1 ⟨n, hn⟩, h3⟩
      · rintro ⟨_, _, k, x, h2, h3, h4⟩
        obtain ⟨n, hn⟩ := rn_bel.2 h3
        exact ⟨k, x, (hb.end_ _).2 ⟨a, by simp, n, hn⟩, h2, h4⟩
    rw [hr] at h2
    exact FreshS.cmp ⟨kH, ks, ko⟩ h2

open Classical in
noncomputable def gofP (g : List Group) (u i : Int) : Bool := decide (u ∈ usersL g i)
theorem gofP_t {g : List Group} {u i : Int} : gofP g u i = true ↔ u ∈ usersL g i := by
  classical
  unfold gofP; simp
noncomputable def gofL (g : List Group) (u : Int) : List Int := selN (gofP g u) g.length
theorem f48 {m : Md} {H : Hp} {v : Value} {g : List Group} {u : Int} (hg : SlG H v g) (hle : g.length ≤ 1048576) (hw : Wr m H) : Fun EE m 48 [v, .int .i64 u] H fun r H' => FreshS eI 1 H r H' (gofL g u) := by
  refine fun_f rfl rfl k48 (by simp [c48]) ?_
  have p0 : H <+: H ++ [[]] := List.prefix_append _ _
  have s0 : SlI (H ++ [[]]) (.slice (some ⟨H.length, 0, some 1⟩) 0 (0 * 1)) [] := own_new
  have o0 : OwnS H.length (.slice (some ⟨H.length, 0, some 1⟩) 0 (0 * 1)) := .inr ⟨_, _, _, _, rfl, Nat.le_refl _⟩
  generalize hwv : Value.slice (some ⟨H.length, 0, some 1⟩) 0 (0 * 1) = wv0 at s0 o0
  simp only [go_sem, ↓reduceIte, Nat.reduceEqDiff, reduceCtorEq, Nat.reduceAdd, Nat.reduceLeDiff, Nat.reduceMul, c48, fillL, hwv]
  refine go_for g.length (fun i s => H <+: s.H ∧ s.ρ 0 = .val v ∧ s.ρ 1 = .val (.int .i64 u) ∧ s.ρ 6 = .val (.int .i64 i) ∧ ∃ wv, s.ρ 5 = .val wv ∧ SlI s.H wv (selN (gofP g u) i) ∧ OwnS H.length wv)
    (fun s => H <+: s.H ∧ ∃ wv, s.ρ 5 = .val wv ∧ SlI s.H wv (gofL g u) ∧ OwnS H.length wv) ?_ ?_ ?_
  · exact ⟨p0, by simp [upd, ini], by simp [upd, ini], by simp [upd], wv0, by simp [upd], s0, o0⟩
  · rintro i s hi ⟨kH, k0, k1, k6, wv, k5, ks, ko⟩
    have kw := hw.pre kH
    have kg := hg.preG kH
    simp only [go_sem, ↓reduceIte, Nat.reduceEqDiff, reduceCtorEq, Nat.reduceAdd, Nat.reduceLeDiff, Nat.reduceMul, k0, k1, k6, k5, kg.len]
    refine brT.intro (fun c1 => ?_) (fun c1 => ?_) <;> simp only [go_sem, ↓reduceIte, Nat.reduceEqDiff, reduceCtorEq, Nat.reduceAdd, Nat.reduceLeDiff, Nat.reduceMul, k0, k1, k6, k5]
    · have h8 : i < g.length := by have := of_decide_eq_true c1; omega
      refine callT_to (fun m' h => f46 (i := (i : Int)) kg h) rfl kw fun bv H2 ⟨p2, s2, o2⟩ => ?_
      have a6 := fun {m draw s d ts Q} => callT_at (m := m) (draw := draw) (s := s) (d := d) (ts := ts) (Q := Q) (f61 (h := u) s2)
      have w2 := kw.pre p2
      simp only [go_sem, ↓reduceIte, Nat.reduceEqDiff, reduceCtorEq, Nat.reduceAdd, Nat.reduceLeDiff, Nat.reduceMul, k0, k1, k6, k5, a6, w2]
      refine brT.intro (fun c2 => ?_) (fun c2 => ?_) <;> simp only [go_sem, ↓reduceIte, Nat.reduceEqDiff, reduceCtorEq, Nat.reduceAdd, Nat.reduceLeDiff, Nat.reduceMul, k0, k1, k6, k5, wrap64 ((i : Int) + 1) (by omega) (by omega)]
      · have hlen := selN_len (gofP g u) i
        obtain ⟨v3, H3, d1, d2, d3, d4, d5, d6, d7⟩ := (ks.pre p2).one (m := m) (i : Int) ko (Nat.le_trans kH.length_le p2.length_le) hw (by omega)
        rw [d1]
        rotate_left
        · rfl
        · rfl
        · rfl
        simp only [go_sem, ↓reduceIte, Nat.reduceEqDiff, reduceCtorEq, Nat.reduceAdd, Nat.reduceLeDiff, Nat.reduceMul, k0, k1, k6, k5, wrap64 ((i : Int) + 1) (by omega) (by omega)]
        exact ⟨h8, d7 H (Nat.le_refl _) (kH.trans p2), by simp, v3, rfl, by rw [selN_yes (gofP_t.2 (of_decide_eq_true c2))]; exact d2, d3⟩
      · refine ⟨h8, kH.trans p2, by simp, wv, rfl, ?_, ko⟩
        rw [selN_no (by cases h : gofP g u i with | false => rfl | true => exact absurd (gofP_t.1 h) (of_decide_eq_false c2))]
        exact ks.pre p2
    · have : i = g.length := by have := of_decide_eq_false c1; omega
      subst this
      exact ⟨kH, wv, rfl, ks, ko⟩
  · rintro s ⟨kH, wv, k5, ks, ko⟩
    simp only [go_sem, ↓reduceIte, Nat.reduceEqDiff, reduceCtorEq, Nat.reduceAdd, Nat.reduceLeDiff, Nat.reduceMul, k5]
    exact ⟨kH, ks, ko⟩

theorem f49 {m : Md} {H : Hp} {v : Value} {g : List Group} {u : Int} (hg : SlG H v g) (hle : g.length ≤ 1048576) (hw : Wr m H) : Fun EE m 49 [v, .int .i64 u] H fun r H' => FreshS eI 1 H r H' (gofL g u) := by
  refine fun_f rfl rfl k49 (by simp [c49]) ?_
  have p0 : H <+: H ++ [[]] := List.prefix_append _ _
  have s0 : SlI (H ++ [[]]) (.slice (some ⟨H.length, 0, some 1⟩) 0 (0 * 1)) [] := own_new
  have o0 : OwnS H.length (.slice (some ⟨H.length, 0, some 1⟩) 0 (0 * 1)) := .inr ⟨_, _, _, _, rfl, Nat.le_refl _⟩
  generalize hwv : Value.slice (some ⟨H.length, 0, some 1⟩) 0 (0 * 1) = wv0 at s0 o0
  simp only [go_sem, ↓reduceIte, Nat.reduceEqDiff, reduceCtorEq, Nat.reduceAdd, Nat.reduceLeDiff, Nat.reduceMul, c49, fillL, hwv, (hg.preG p0).len]
  refine go_for g.length (fun i s => H <+: s.H ∧ s.ρ 0 = .val v ∧ s.ρ 1 = .val (.int .i64 u) ∧ s.ρ 9 = .val (.int .i64 g.length) ∧ s.ρ 10 = .val (.int .i64 i) ∧ ∃ wv, s.ρ 5 = .val wv ∧ SlI s.H wv (selN (gofP g u) i) ∧ OwnS H.length wv)
    (fun s => H <+: s.H ∧ ∃ wv, s.ρ 5 = .val wv ∧ SlI s.H wv (gofL g u) ∧ OwnS H.length wv) ?_ ?_ ?_
  · exact ⟨p0, by simp [upd, ini], by simp [upd, ini], by simp [upd], by simp [upd], wv0, by simp [upd], s0, o0⟩
  · rintro i s hi ⟨kH, k0, k1, k9, k10, wv, k5, ks, ko⟩
    have kw := hw.pre kH
    have kg := hg.preG kH
    simp only [go_sem, ↓reduceIte, Nat.reduceEqDiff, reduceCtorEq, Nat.reduceAdd, Nat.reduceLeDiff, Nat.reduceMul, k0, k1, k9, k10, k5]
    refine brT.intro (fun c1 => ?_) (fun c1 => ?_) <;> simp only [go_sem, ↓reduceIte, Nat.reduceEqDiff, reduceCtorEq, Nat.reduceAdd, Nat.reduceLeDiff, Nat.reduceMul, k0, k1, k9, k10, k5]
    · have h8 : i < g.length := by have := of_decide_eq_true c1; omega
      refine callT_to (fun m' h => f47 (i := (i : Int)) kg (by omega) h) rfl kw fun bv H2 ⟨p2, s2, o2⟩ => ?_
      have a6 := fun {m draw s d ts Q} => callT_at (m := m) (draw := draw) (s := s) (d := d) (ts := ts) (Q := Q) (f62 (h := u) s2)
      have w2 := kw.pre p2
      simp only [go_sem, ↓reduceIte, Nat.reduceEqDiff, reduceCtorEq, Nat.reduceAdd, Nat.reduceLeDiff, Nat.reduceMul, k0, k1, k9, k10, k5, a6, w2]
      refine brT.intro (fun c2 => ?_) (fun c2 => ?_) <;> simp only [go_sem, ↓reduceIte, Nat.reduceEqDiff, reduceCtorEq, Nat.reduceAdd, Nat.reduceLeDiff, Nat.reduceMul, k0, k1, k9, k10, k5, wrap64 ((i : Int) + 1) (by omega) (by omega)]
      · have hlen := selN_len (gofP g u) i
        obtain ⟨v3, H3, d1, d2, d3, d4, d5, d6, d7⟩ := (ks.pre p2).one (m := m) (i : Int) ko (Nat.le_trans kH.length_le p2.length_le) hw (by omega)
        rw [d1]
        rotate_left
        · rfl
        · rfl
        · rfl
        simp only [go_sem, ↓reduceIte, Nat.reduceEqDiff, reduceCtorEq, Nat.reduceAdd, Nat.reduceLeDiff, Nat.reduceMul, k0, k1, k9, k10, k5, wrap64 ((i : Int) + 1) (by omega) (by omega)]
        exact ⟨h8, d7 H (Nat.le_refl _) (kH.trans p2), by simp, v3, rfl, by rw [selN_yes (gofP_t.2 (of_decide_eq_true c2))]; exact d2, d3⟩
      · refine ⟨h8, kH.trans p2, by simp, wv, rfl, ?_, ko⟩
        rw [selN_no (by cases h : gofP g u i with | false => rfl | true => exact absurd (gofP_t.1 h) (of_decide_eq_false c2))]
        exact ks.pre p2
    · have : i = g.length := by have := of_decide_eq_false c1; omega
      subst this
      exact ⟨kH, wv, rfl, ks, ko⟩
  · rintro s ⟨kH, wv, k5, ks, ko⟩
    simp only [go_sem, ↓reduceIte, Nat.reduceEqDiff, reduceCtorEq, Nat.reduceAdd, Nat.reduceLeDiff, Nat.reduceMul, k5]
    exact ⟨kH, ks, ko⟩

end Go.Proofs.Ytdplmjlbkaipiaa.Ev

/- Code of the program's functions, as the small machine has it: written by mkcode.py. -/
namespace Go.Proofs.Ytdplmjlbkaipiaa.Ev
set_option linter.all false
open Go
def c13 : CF := ⟨92, (.seq (.reg false [⟨(some 4), .none, (.mov (.c (.bool false))), 0, []⟩]) (.seq (.reg false [⟨(some 5), .none, (.mov (.c (.int .i64 1048576))), 0, []⟩]) (.seq (.reg false [⟨(some 14), .none, (.mov (.t 0)), 0, []⟩, ⟨(some 15), .none, (.mov (.t 5)), 1, []⟩, ⟨(some 16), .none, (.call 38 [(.t 14), (.t 15)]), 2, []⟩, ⟨(some 5), .none, (.mov (.t 16)), 3, []⟩]) (.seq (.seq (.reg false [⟨(some 17), .none, (.mov (.t 5)), 0, []⟩, ⟨(some 18), .none, (.bin .lss (.t 17) (.c (.int .i64 0))), 1, []⟩]) (.cond (.t 18) (.seq (.reg false [⟨(some 4), .none, (.mov (.c (.bool true))), 0, []⟩]) .ret) .skip)) (.seq (.reg false [⟨(some 19), .none, (.mov (.t 1)), 0, []⟩, ⟨(some 20), .none, (.mov (.t 5)), 1, []⟩, ⟨(some 21), .none, (.call 38 [(.t 19), (.t 20)]), 2, []⟩, ⟨(some 5), .none, (.mov (.t 21)), 3, []⟩]) (.seq (.seq (.reg false [⟨(some 22), .none, (.mov (.t 5)), 0, []⟩, ⟨(some 23), .none, (.bin .lss (.t 22) (.c (.int .i64 0))), 1, []⟩]) (.cond (.t 23) (.seq (.reg false [⟨(some 4), .none, (.mov (.c (.bool true))), 0, []⟩]) .ret) .skip)) (.seq (.reg false [⟨(some 24), .none, (.mov (.t 0)), 0, []⟩, ⟨(some 25), .none, (.call 40 [(.t 24)]), 1, []⟩, ⟨(some 26), .none, (.mov (.t 1)), 2, []⟩, ⟨(some 27), .none, (.call 40 [(.t 26)]), 3, []⟩, ⟨(some 28), .none, (.call 50 [(.t 25), (.t 27)]), 4, []⟩, ⟨(some 6), .none, (.mov (.t 28)), 5, []⟩]) (.seq (.reg false [⟨(some 29), .none, (.mov (.t 0)), 0, []⟩, ⟨(some 30), .none, (.call 40 [(.t 29)]), 1, []⟩, ⟨(some 7), .none, (.mov (.t 30)), 2, []⟩]) (.seq (.reg false [⟨(some 31), .none, (.mov (.t 1)), 0, []⟩, ⟨(some 32), .none, (.call 40 [(.t 31)]), 1, []⟩, ⟨(some 8), .none, (.mov (.t 32)), 2, []⟩]) (.seq (.reg false [⟨(some 33), .none, (.mov (.t 7)), 0, []⟩, ⟨(some 34), .none, (.mov (.t 8)), 1, []⟩, ⟨(some 35), .none, (.call 51 [(.t 33), (.t 34)]), 2, []⟩, ⟨(some 9), .none, (.mov (.t 35)), 3, []⟩]) (.seq (.seq (.reg false [⟨(some 36), .none, (.mov (.t 9)), 0, []⟩, ⟨(some 37), .none, (.mov (.t 6)), 1, []⟩, ⟨(some 38), .none, (.call 42 [(.t 36), (.t 37)]), 2, []⟩, ⟨(some 39), .none, (.un .not (.t 38)), 3, []⟩]) (.cond (.t 39) (.seq (.reg false [⟨(some 4), .none, (.mov (.c (.bool false))), 0, []⟩]) .ret) .skip)) (.seq (.seq (.reg false [⟨(some 40), .none, (.mov (.t 7)), 0, []⟩, ⟨(some 41), .none, (.mov (.t 0)), 1, []⟩, ⟨(some 42), .none, (.call 40 [(.t 41)]), 2, []⟩, ⟨(some 43), .none, (.call 42 [(.t 40), (.t 42)]), 3, []⟩, ⟨(some 44), .none, (.un .not (.t 43)), 4, []⟩]) (.cond (.t 44) (.seq (.reg false [⟨(some 4), .none, (.mov (.c (.bool false))), 0, []⟩]) .ret) .skip)) (.seq (.seq (.reg false [⟨(some 45), .none, (.mov (.t 8)), 0, []⟩, ⟨(some 46), .none, (.mov (.t 1)), 1, []⟩, ⟨(some 47), .none, (.call 40 [(.t 46)]), 2, []⟩, ⟨(some 48), .none, (.call 42 [(.t 45), (.t 47)]), 3, []⟩, ⟨(some 49), .none, (.un .not (.t 48)), 4, []⟩]) (.cond (.t 49) (.seq (.reg false [⟨(some 4), .none, (.mov (.c (.bool false))), 0, []⟩]) .ret) .skip)) (.seq (.reg false [⟨(some 10), .none, (.mov (.c (.int .i64 1))), 0, []⟩]) (.seq (.reg false [⟨(some 50), .none, (.mov (.t 7)), 0, []⟩, ⟨(some 51), .none, (.mov (.t 10)), 1, []⟩, ⟨(some 52), .none, (.call 45 [(.t 50), (.t 51)]), 2, []⟩, ⟨(some 10), .none, (.mov (.t 52)), 3, []⟩]) (.seq (.reg false [⟨(some 53), .none, (.mov (.t 8)), 0, []⟩, ⟨(some 54), .none, (.mov (.t 10)), 1, []⟩, ⟨(some 55), .none, (.call 45 [(.t 53), (.t 54)]), 2, []⟩, ⟨(some 10), .none, (.mov (.t 55)), 3, []⟩]) (.seq (.seq (.reg false [⟨(some 56), .none, (.mov (.t 10)), 0, []⟩, ⟨(some 57), .none, (.bin .lss (.t 56) (.c (.int .i64 0))), 1, []⟩, ⟨(some 58), .none, (.mov (.t 57)), 2, []⟩, ⟨(some 59), (.some (58, false)), (.mov (.t 9)), 3, []⟩, ⟨(some 60), (.some (58, false)), (.mov (.t 6)), 4, []⟩, ⟨(some 61), (.some (58, false)), (.call 42 [(.t 59), (.t 60)]), 5, []⟩, ⟨(some 62), (.some (58, false)), (.un .not (.t 61)), 6, []⟩, ⟨(some 63), .none, (.pick (.t 58) (.c (.bool true)) (.t 62)), 7, []⟩]) (.cond (.t 63) (.seq (.reg false [⟨(some 4), .none, (.mov (.c (.bool false))), 0, []⟩]) .ret) .skip)) (.seq (.reg false [⟨(some 11), .none, (.mov (.c (.int .i64 1))), 0, []⟩]) (.seq (.reg false [⟨(some 64), .none, (.mov (.t 9)), 0, []⟩, ⟨(some 65), .none, (.mov (.t 11)), 1, []⟩, ⟨(some 66), .none, (.call 45 [(.t 64), (.t 65)]), 2, []⟩, ⟨(some 11), .none, (.mov (.t 66)), 3, []⟩]) (.seq (.reg false [⟨(some 12), .none, (.mov (.c (.int .i64 1))), 0, []⟩]) (.seq (.reg false [⟨(some 67), .none, (.mov (.t 9)), 0, []⟩, ⟨(some 68), .none, (.mov (.t 12)), 1, []⟩, ⟨(some 69), .none, (.call 52 [(.t 67), (.t 68)]), 2, []⟩, ⟨(some 12), .none, (.mov (.t 69)), 3, []⟩]) (.seq (.seq (.reg false [⟨(some 70), .none, (.mov (.t 12)), 0, []⟩, ⟨(some 71), .none, (.bin .lss (.t 70) (.c (.int .i64 0))), 1, []⟩]) (.cond (.t 71) (.seq (.reg false [⟨(some 4), .none, (.mov (.c (.bool false))), 0, []⟩]) .ret) .skip)) (.seq (.seq (.reg false [⟨(some 72), .none, (.mov (.t 12)), 0, []⟩, ⟨(some 73), .none, (.mov (.t 11)), 1, []⟩, ⟨(some 74), .none, (.bin .neq (.t 72) (.t 73)), 2, []⟩]) (.cond (.t 74) (.seq (.reg false [⟨(some 4), .none, (.mov (.c (.bool false))), 0, []⟩]) .ret) .skip)) (.seq (.reg false [⟨(some 75), .none, (.mov (.t 0)), 0, []⟩, ⟨(some 76), .none, (.call 40 [(.t 75)]), 1, []⟩, ⟨(some 77), .none, (.mov (.t 1)), 2, []⟩, ⟨(some 78), .none, (.call 40 [(.t 77)]), 3, []⟩, ⟨(some 79), .none, (.call 51 [(.t 76), (.t 78)]), 4, []⟩, ⟨(some 13), .none, (.mov (.t 79)), 5, []⟩]) (.seq (.seq (.reg false [⟨(some 80), .none, (.mov (.t 13)), 0, []⟩, ⟨(some 81), .none, (.mov (.t 6)), 1, []⟩, ⟨(some 82), .none, (.call 42 [(.t 80), (.t 81)]), 2, []⟩, ⟨(some 83), .none, (.un .not (.t 82)), 3, []⟩]) (.cond (.t 83) (.seq (.reg false [⟨(some 4), .none, (.mov (.c (.bool false))), 0, []⟩]) .ret) .skip)) (.seq (.reg false [⟨(some 12), .none, (.mov (.c (.int .i64 1))), 0, []⟩]) (.seq (.reg false [⟨(some 84), .none, (.mov (.t 9)), 0, []⟩, ⟨(some 85), .none, (.mov (.t 12)), 1, []⟩, ⟨(some 86), .none, (.call 52 [(.t 84), (.t 85)]), 2, []⟩, ⟨(some 12), .none, (.mov (.t 86)), 3, []⟩]) (.seq (.seq (.reg false [⟨(some 87), .none, (.mov (.t 12)), 0, []⟩, ⟨(some 88), .none, (.bin .lss (.t 87) (.c (.int .i64 0))), 1, []⟩]) (.cond (.t 88) (.seq (.reg false [⟨(some 4), .none, (.mov (.c (.bool false))), 0, []⟩]) .ret) .skip)) (.seq (.seq (.reg false [⟨(some 89), .none, (.mov (.t 12)), 0, []⟩, ⟨(some 90), .none, (.mov (.t 11)), 1, []⟩, ⟨(some 91), .none, (.bin .neq (.t 89) (.t 90)), 2, []⟩]) (.cond (.t 91) (.seq (.reg false [⟨(some 4), .none, (.mov (.c (.bool false))), 0, []⟩]) .ret) .skip)) (.seq (.reg false [⟨(some 4), .none, (.mov (.c (.bool true))), 0, []⟩]) .ret)))))))))))))))))))))))))))))), [(.t 4)]⟩
theorem k13 : EE.fns 13 = some c13 := by kernel_rfl
def c51 : CF := ⟨72, (.seq (.reg false [⟨(some 4), .none, (.mov (.c (.slice .none 0 0))), 0, []⟩]) (.seq (.reg false [⟨(some 10), .none, (.mkO 0 2 [(.slice .none 0 0), (.slice .none 0 0)] []), 0, []⟩, ⟨(some 5), .none, (.mov (.t 10)), 1, []⟩]) (.seq (.seq (.reg false [⟨(some 11), .none, (.mov (.t 0)), 0, []⟩, ⟨(some 12), .none, (.call 41 [(.t 11)]), 1, []⟩, ⟨(some 13), .none, (.un .not (.t 12)), 2, []⟩, ⟨(some 14), .none, (.mov (.t 13)), 3, []⟩, ⟨(some 15), (.some (14, false)), (.mov (.t 1)), 4, []⟩, ⟨(some 16), (.some (14, false)), (.call 41 [(.t 15)]), 5, []⟩, ⟨(some 17), (.some (14, false)), (.un .not (.t 16)), 6, []⟩, ⟨(some 18), .none, (.pick (.t 14) (.c (.bool true)) (.t 17)), 7, []⟩]) (.cond (.t 18) (.seq (.reg false [⟨(some 19), .none, (.mov (.t 5)), 0, []⟩, ⟨(some 4), .none, (.mov (.t 19)), 1, []⟩]) .ret) .skip)) (.seq (.seq (.reg false [⟨(some 20), .none, (.mov (.t 0)), 0, []⟩, ⟨(some 21), .none, (.lenS (.t 20)), 1, []⟩, ⟨(some 22), .none, (.mov (.t 1)), 2, []⟩, ⟨(some 23), .none, (.lenS (.t 22)), 3, []⟩, ⟨(some 24), .none, (.mx (.t 21) (.t 23)), 4, []⟩, ⟨(some 25), .none, (.mov (.c (.int .i64 0))), 5, []⟩]) (.block 0 (.loop (.seq (.reg false [⟨(some 26), .none, (.bin .lss (.t 25) (.t 24)), 0, []⟩]) (.seq (.cond (.t 26) .skip (.exit 0)) (.seq (.block 1 (.seq (.reg false [⟨(some 27), .none, (.mov (.t 25)), 0, []⟩, ⟨(some 6), .none, (.mov (.t 27)), 1, []⟩]) (.seq (.reg false [⟨(some 28), .none, (.build [(.slice .none 0 0), (.slice .none 0 0)] []), 0, []⟩, ⟨(some 7), .none, (.newV [(.slice .none 0 0), (.slice .none 0 0)]), 1, []⟩, ⟨.none, .none, (.store 2 (.t 7) (.t 28)), 2, []⟩]) (.seq (.seq (.reg false [⟨(some 29), .none, (.mov (.t 0)), 0, []⟩, ⟨(some 30), .none, (.mov (.t 1)), 1, []⟩, ⟨(some 31), .none, (.mkO 2 1 [(.slice .none 0 0)] [(0, (.t 29)), (1, (.t 30))]), 2, []⟩, ⟨(some 32), .none, (.lenS (.t 31)), 3, []⟩, ⟨(some 33), .none, (.mov (.c (.int .i64 0))), 4, []⟩]) (.block 2 (.loop (.seq (.reg false [⟨(some 34), .none, (.bin .lss (.t 33) (.t 32)), 0, []⟩]) (.seq (.cond (.t 34) .skip (.exit 2)) (.seq (.block 3 (.seq (.reg false [⟨(some 35), .none, (.iadr 1 (.t 31) (.t 33)), 0, []⟩, ⟨(some 36), .none, (.load 1 false (.t 35)), 1, []⟩, ⟨(some 9), .none, (.mov (.t 36)), 2, []⟩]) (.seq (.reg false [⟨(some 37), .none, (.mov (.t 6)), 0, []⟩, ⟨(some 38), .none, (.mov (.t 9)), 1, []⟩, ⟨(some 39), .none, (.lenS (.t 38)), 2, []⟩, ⟨(some 40), .none, (.bin .lss (.t 37) (.t 39)), 3, []⟩]) (.cond (.t 40) (.seq (.reg true [⟨(some 41), .none, (.fadr 0 (.t 7)), 0, []⟩, ⟨(some 42), .none, (.load 1 false (.t 41)), 1, [0]⟩, ⟨(some 43), .none, (.mov (.t 9)), 2, []⟩, ⟨(some 44), .none, (.mov (.t 6)), 3, []⟩, ⟨(some 45), .none, (.iadr 2 (.t 43) (.t 44)), 4, [2, 3]⟩, ⟨(some 46), .none, (.fadr 0 (.t 45)), 5, [4, 2, 3]⟩, ⟨(some 47), .none, (.load 1 false (.t 46)), 6, [5, 4, 2, 3]⟩, ⟨(some 48), .none, (.app 1 8 (.t 42) (.t 47)), 7, [1, 0, 6, 5, 4, 2, 3]⟩, ⟨(some 49), .none, (.fadr 0 (.t 7)), 8, [0, 1, 2, 3, 4, 5, 6, 7]⟩, ⟨.none, .none, (.store 1 (.t 49) (.t 48)), 9, [8, 0, 1, 2, 3, 4, 5, 6, 7]⟩]) (.reg true [⟨(some 50), .none, (.fadr 1 (.t 7)), 0, []⟩, ⟨(some 51), .none, (.load 1 false (.t 50)), 1, [0]⟩, ⟨(some 52), .none, (.mov (.t 9)), 2, []⟩, ⟨(some 53), .none, (.mov (.t 6)), 3, []⟩, ⟨(some 54), .none, (.iadr 2 (.t 52) (.t 53)), 4, [2, 3]⟩, ⟨(some 55), .none, (.fadr 1 (.t 54)), 5, [4, 2, 3]⟩, ⟨(some 56), .none, (.load 1 false (.t 55)), 6, [5, 4, 2, 3]⟩, ⟨(some 57), .none, (.app 1 8 (.t 51) (.t 56)), 7, [1, 0, 6, 5, 4, 2, 3]⟩, ⟨(some 58), .none, (.fadr 1 (.t 7)), 8, [0, 1, 2, 3, 4, 5, 6, 7]⟩, ⟨.none, .none, (.store 1 (.t 58) (.t 57)), 9, [8, 0, 1, 2, 3, 4, 5, 6, 7]⟩])) .skip)))) (.reg false [⟨(some 59), .none, (.bin .add (.t 33) (.c (.int .i64 1))), 0, []⟩, ⟨(some 33), .none, (.mov (.t 59)), 1, []⟩]))))))) (.reg true [⟨(some 60), .none, (.mov (.t 5)), 0, []⟩, ⟨(some 61), .none, (.fadr 0 (.t 7)), 1, []⟩, ⟨(some 62), .none, (.load 1 false (.t 61)), 2, [1]⟩, ⟨(some 63), .none, (.call 66 [(.t 62)]), 3, [2, 1]⟩, ⟨(some 64), .none, (.fadr 1 (.t 7)), 4, []⟩, ⟨(some 65), .none, (.load 1 false (.t 64)), 5, [4]⟩, ⟨(some 66), .none, (.call 66 [(.t 65)]), 6, [5, 4, 3, 2, 1]⟩, ⟨(some 67), .none, (.build [(.slice .none 0 0), (.slice .none 0 0)] [(0, (1, (.t 63))), (1, (1, (.t 66)))]), 7, [3, 2, 1, 6, 5, 4]⟩, ⟨(some 68), .none, (.mkV 1 2 [(.slice .none 0 0), (.slice .none 0 0)] [(0, (.t 67))]), 8, [7, 3, 2, 1, 6, 5, 4]⟩, ⟨(some 69), .none, (.app 2 48 (.t 60) (.t 68)), 9, [0, 8, 7, 3, 2, 1, 6, 5, 4]⟩, ⟨(some 5), .none, (.mov (.t 69)), 10, [9, 0, 8, 7, 3, 2, 1, 6, 5, 4]⟩]))))) (.reg false [⟨(some 70), .none, (.bin .add (.t 25) (.c (.int .i64 1))), 0, []⟩, ⟨(some 25), .none, (.mov (.t 70)), 1, []⟩]))))))) (.seq (.reg false [⟨(some 71), .none, (.mov (.t 5)), 0, []⟩, ⟨(some 4), .none, (.mov (.t 71)), 1, []⟩]) .ret))))), [(.t 4)]⟩
theorem k51 : EE.fns 51 = some c51 := by kernel_rfl
end Go.Proofs.Ytdplmjlbkaipiaa.Ev

/- The reference's way to put two rising rows of numbers together. -/
namespace Go.Proofs.Ytdplmjlbkaipiaa.Ev
set_option linter.all false
open Go
set_option maxRecDepth 4000

theorem OwnS.mono {N N' : Nat} {v : Value} (h : OwnS N v) (hn : N' ≤ N) : OwnS N' v := by
  rcases h with h | ⟨id, e, ln, cap, h, hid⟩
  · exact .inl h
  · exact .inr ⟨id, e, ln, cap, h, by omega⟩
theorem rsn_to {l k : List Int} (h : Asc k) (hm : ∀ x, x ∈ k ↔ x ∈ l) : k = rsn l := h.eq (rsn_asc l) fun x => (hm x).trans (rsn_mem l x).symm

theorem asc_drop_lt {l : List Int} (h : Asc l) {i : Nat} (hi : i < l.length) : (∀ y ∈ l.take i, y < l[i]) ∧ ∀ z ∈ l.drop (i + 1), l[i] < z := by
  have h := List.pairwise_iff_getElem.1 h
  refine ⟨fun y hy => ?_, fun z hz => ?_⟩
  · obtain ⟨j, hj, rfl⟩ := List.mem_iff_getElem.1 hy
    rw [List.length_take] at hj
    rw [List.getElem_take]
    exact h _ _ _ _ (by omega)
  · obtain ⟨j, hj, rfl⟩ := List.mem_iff_getElem.1 hz
    rw [List.length_drop] at hj
    rw [List.getElem_drop]
    exact h _ _ _ _ (by omega)

/-- What stands written while a number is put in its place. -/
structure PutI (l : List Int) (x : Int) (i : Nat) (b : Bool) (ol : List Int) : Prop where
  no : b = false → ol = l.take i ∧ ∀ y ∈ l.take i, y < x
  yes : b = true → Asc ol ∧ (∀ y, y ∈ ol ↔ y ∈ l.take i ∨ y = x) ∧ ∀ y ∈ ol, ∀ z ∈ l.drop i, y < z
  le : ol.length ≤ i + 1
theorem PutI.end_ {l : List Int} {x : Int} {b : Bool} {ol : List Int} (h : PutI l x l.length b ol) (ha : Asc l) : (b = true → ol = rsn (l ++ [x])) ∧ (b = false → ol ++ [x] = rsn (l ++ [x])) := by
  refine ⟨fun hb => ?_, fun hb => ?_⟩
  · obtain ⟨h1, h2, _⟩ := h.yes hb
    refine rsn_to h1 fun y => ?_
    rw [h2 y, List.take_length]
    simp
  · obtain ⟨h1, h2⟩ := h.no hb
    rw [List.take_length] at h1 h2
    subst h1
    refine rsn_to ?_ fun y => Iff.rfl
    exact List.pairwise_append.2 ⟨ha, by simp, fun y hy z hz => by rw [List.mem_singleton] at hz; subst hz; exact h2 y hy⟩
theorem PutI.put {l : List Int} {x : Int} {i : Nat} {ol : List Int} (h : PutI l x i false ol) (ha : Asc l) (hi : i < l.length) (hx : x < l[i]) : PutI l x (i + 1) true (ol ++ [x] ++ [l[i]]) := by
  obtain ⟨e, hb⟩ := h.no rfl
  subst e
  have ⟨a1, a2⟩ := asc_drop_lt ha hi
  refine ⟨fun h => (by cases h), fun _ => ⟨?_, fun y => ?_, fun y hy z hz => ?_⟩, ?_⟩
  · refine List.pairwise_append.2 ⟨List.pairwise_append.2 ⟨ha.sublist (List.take_sublist _ _), by simp, fun y hy z hz => ?_⟩, by simp, fun y hy z hz => ?_⟩
    · rw [List.mem_singleton] at hz; subst hz; exact hb y hy
    · rw [List.mem_singleton] at hz; subst hz
      rcases List.mem_append.1 hy with hy | hy
      · exact a1 y hy
      · rw [List.mem_singleton] at hy; subst hy; exact hx
  · rw [List.take_succ_eq_append_getElem hi]
    simp only [List.mem_append, List.mem_singleton]
    constructor
    · rintro ((h | h) | h)
      · exact .inl (.inl h)
      · exact .inr h
      · exact .inl (.inr h)
    · rintro ((h | h) | h)
      · exact .inl (.inl h)
      · exact .inr h
      · exact .inl (.inr h)
  · have hz2 := a2 z hz
    rcases List.mem_append.1 hy with hy | hy
    · rcases List.mem_append.1 hy with hy | hy
      · have := a1 y hy; omega
      · rw [List.mem_singleton] at hy; omega
    · rw [List.mem_singleton] at hy; omega
  · simp only [List.length_append, List.length_take, List.length_singleton]; omega
theorem PutI.go {l : List Int} {x : Int} {i : Nat} {b : Bool} {ol : List Int} (h : PutI l x i b ol) (ha : Asc l) (hi : i < l.length) (hx : b = true ∨ (¬ x < l[i] ∧ x ≠ l[i])) : PutI l x (i + 1) b (ol ++ [l[i]]) := by
  have ⟨a1, a2⟩ := asc_drop_lt ha hi
  have hd : l.drop i = l[i] :: l.drop (i + 1) := List.drop_eq_getElem_cons hi
  refine ⟨fun hb => ?_, fun hb => ?_, by have := h.le; simp only [List.length_append, List.length_singleton]; omega⟩
  · obtain ⟨e, hb2⟩ := h.no hb
    rw [List.take_succ_eq_append_getElem hi]
    refine ⟨by rw [e], fun y hy => ?_⟩
    rcases List.mem_append.1 hy with hy | hy
    · exact hb2 y hy
    · rw [List.mem_singleton] at hy
      rcases hx with hx | hx
      · rw [hb] at hx; cases hx
      · omega
  · obtain ⟨h1, h2, h3⟩ := h.yes hb
    rw [hd] at h3
    refine ⟨List.pairwise_append.2 ⟨h1, by simp, fun y hy z hz => by rw [List.mem_singleton] at hz; subst hz; exact h3 y hy _ List.mem_cons_self⟩, fun y => ?_, fun y hy z hz => ?_⟩
    · rw [List.take_succ_eq_append_getElem hi]
      simp only [List.mem_append, List.mem_singleton, h2 y]
      constructor
      · rintro ((h | h) | h)
        · exact .inl (.inl h)
        · exact .inr h
        · exact .inl (.inr h)
      · rintro ((h | h) | h)
        · exact .inl (.inl h)
        · exact .inr h
        · exact .inl (.inr h)
    · rcases List.mem_append.1 hy with hy | hy
      · exact h3 y hy z (List.mem_cons_of_mem _ hz)
      · rw [List.mem_singleton] at hy; subst hy; exact a2 z hz

end Go.Proofs.Ytdplmjlbkaipiaa.Ev

/- Groups put together: what it leaves, rows apart; the reference's way. -/
namespace Go.Proofs.Ytdplmjlbkaipiaa.Ev
set_option linter.all false
open Go
set_option maxRecDepth 4000

/-- A group and its two headers. -/
abbrev GX := Group × Value × Value
def RX (H : Hp) (x : GX) (cs : List Value) : Prop := cs = [x.2.1, x.2.2] ∧ SlI H x.2.1 x.1.1 ∧ SlI H x.2.2 x.1.2
def idsX (x : GX) : List Nat := idsOf x.2.1 ++ idsOf x.2.2
structure GL (N : Nat) (H : Hp) (v : Value) (l : List GX) : Prop where
  sl : Sl (RX H) 2 H v l
  own : OwnS N v
  nd : (l.flatMap idsX).Nodup
  far : ∀ j ∈ l.flatMap idsX, j ∉ idsOf v ∧ N ≤ j ∧ j < H.length
theorem RX.pre {H H' : Hp} {x : GX} {cs : List Value} (h : RX H x cs) (hp : H <+: H') : RX H' x cs := ⟨h.1, h.2.1.pre hp, h.2.2.pre hp⟩
theorem GL.pre {N : Nat} {H H' : Hp} {v : Value} {l : List GX} (h : GL N H v l) (hp : H <+: H') : GL N H' v l :=
  ⟨(h.sl.pre hp).frame (fun _ _ _ h => h.pre hp) fun _ _ _ _ _ _ => rfl, h.own, h.nd, fun j hj => ⟨(h.far j hj).1, (h.far j hj).2.1, by have := (h.far j hj).2.2; have := hp.length_le; omega⟩⟩
theorem Sl.mapG {H : Hp} {v : Value} : ∀ {l : List GX}, Sl (RX H) 2 H v l → SlG H v (l.map (·.1)) := fun {l} h => by
  rcases h with ⟨rfl, rfl⟩ | ⟨id, off, cap, o, rfl, ho, hc, hn, hrm, hr⟩
  · exact .inl ⟨rfl, rfl⟩
  · exact .inr ⟨id, off, cap, o, by rw [List.length_map], ho, hc, by rw [List.length_map]; exact hn, by rw [List.length_map]; exact hrm, fun i a hi => by
      rw [List.getElem?_map] at hi
      cases hx : l[i]? with
      | none => rw [hx] at hi; cases hi
      | some x =>
        rw [hx] at hi
        cases hi
        obtain ⟨e, p, q⟩ := hr i x hx
        exact ⟨_, _, e, p, q⟩⟩
theorem GL.g {N : Nat} {H : Hp} {v : Value} {l : List GX} (h : GL N H v l) : SlG H v (l.map (·.1)) := h.sl.mapG
theorem GL.push {m : Md} {N : Nat} {H : Hp} {v u s : Value} {l : List GX} {g1 g2 : List Int} (h : GL N H v l) (hN : N ≤ H.length) (hu : SlI H u g1) (hs : SlI H s g2) (hnd : (idsOf u ++ idsOf s).Nodup) (hfar : ∀ j ∈ idsOf u ++ idsOf s, N ≤ j ∧ j ∉ idsOf v ∧ j ∉ l.flatMap idsX)
    (hw : ∀ id, N ≤ id → m.wr id = true) (hnr : m.nr = false) (hb : l.length < 1000) :
    ∃ v' H', (∀ (st : St) (x y : X), st.H = H → exv st.ρ x = some v → ex st.ρ y = .vs 1 [u, s] → appK m st 2 48 x y = some (.val v', { st with H := H' })) ∧ GL N H' v' (l ++ [((g1, g2), u, s)]) ∧ ∀ H0 : Hp, H0.length ≤ N → H0 <+: H → H0 <+: H' := by
  obtain ⟨v', H', h1, h2, h3, h4, h5, h6, h7⟩ := h.sl.app (m := m) (n := 1) (bytes := 48) (l2 := [((g1, g2), u, s)]) (cs := [u, s]) h.own hN hw (fun e => by rw [hnr] at e; cases e) (by simp) rfl (fun i b hi => by
    cases i with
    | zero => simp at hi; subst hi; exact ⟨rfl, hu, hs⟩
    | succ i => simp at hi) (by unfold Ev.room; simp; omega) (by unfold Ev.room; simp; omega)
  have keepI : ∀ {w : Value} {k : List Int}, SlI H w k → (∀ j ∈ idsOf w, j ∉ idsOf v) → SlI H' w k := fun {w k} hk hd => hk.aside hd h4
  have hm : (l ++ [((g1, g2), u, s)]).flatMap idsX = l.flatMap idsX ++ (idsOf u ++ idsOf s) := by simp [List.flatMap_append, idsX]
  have hlt : ∀ j ∈ idsOf u ++ idsOf s, j < H.length := fun j hj => by
    rcases List.mem_append.1 hj with hj | hj
    · exact hu.ids j hj
    · exact hs.ids j hj
  refine ⟨v', H', fun st x y hH hx hy => h1 st x y hH hx (by rw [hy]; rfl), ⟨h2.frame (fun x hx cs ⟨e, p, q⟩ => ?_) fun _ _ _ _ _ _ => rfl, h3, ?_, fun j hj => ?_⟩, h7⟩
  · refine ⟨e, keepI p fun j hj => ?_, keepI q fun j hj => ?_⟩
    · rcases List.mem_append.1 hx with hx | hx
      · exact (h.far j (List.mem_flatMap.2 ⟨x, hx, List.mem_append_left _ hj⟩)).1
      · rw [List.mem_singleton] at hx
        subst hx
        exact (hfar j (List.mem_append_left _ hj)).2.1
    · rcases List.mem_append.1 hx with hx | hx
      · exact (h.far j (List.mem_flatMap.2 ⟨x, hx, List.mem_append_right _ hj⟩)).1
      · rw [List.mem_singleton] at hx
        subst hx
        exact (hfar j (List.mem_append_right _ hj)).2.1
  · rw [hm]
    exact List.nodup_append.2 ⟨h.nd, hnd, fun a ha b hb e => by subst e; exact (hfar a hb).2.2 ha⟩
  · rw [hm] at hj
    have key : j ∉ idsOf v → N ≤ j → j < H.length → j ∉ idsOf v' ∧ N ≤ j ∧ j < H'.length := fun a b c => ⟨fun hq => by
      rcases h6 j hq with hq | hq
      · exact a hq
      · omega, b, by omega⟩
    rcases List.mem_append.1 hj with hj | hj
    · have := h.far j hj
      exact key this.1 this.2.1 this.2.2
    · have := hfar j hj
      exact key this.2.1 this.1 (hlt j hj)

def uOf (l : List Group) (i : Nat) : List Int := match l[i]? with | some g => g.1 | none => []
def sOf (l : List Group) (i : Nat) : List Int := match l[i]? with | some g => g.2 | none => []
def mgG (a b : List Group) (i : Nat) : Group := (rsn (uOf a i ++ uOf b i), rsn (sOf a i ++ sOf b i))
noncomputable def mergeL (a b : List Group) : List Group := if groupsOk a = true ∧ groupsOk b = true then (List.range (max a.length b.length)).map (mgG a b) else []
theorem mergeL_no {a b : List Group} (h : ¬ (groupsOk a = true ∧ groupsOk b = true)) : mergeL a b = [] := by unfold mergeL; rw [if_neg h]
theorem mergeL_yes {a b : List Group} (h : groupsOk a = true ∧ groupsOk b = true) : mergeL a b = (List.range (max a.length b.length)).map (mgG a b) := by unfold mergeL; rw [if_pos h]
theorem uOf_at {l : List Group} {i : Nat} (h : i < l.length) : uOf l i = l[i].1 ∧ sOf l i = l[i].2 := by unfold uOf sOf; rw [List.getElem?_eq_getElem h]; exact ⟨rfl, rfl⟩
theorem uOf_no {l : List Group} {i : Nat} (h : ¬ i < l.length) : uOf l i = [] ∧ sOf l i = [] := by unfold uOf sOf; rw [List.getElem?_eq_none (by omega)]; exact ⟨rfl, rfl⟩
theorem rise_asc {l : List Int} (h : RiseP l) : Asc l := by
  have nb : ∀ i, (hi : i + 1 < l.length) → l[i]'(by omega) < l[i + 1] := fun i hi => h i _ _ (List.getElem?_eq_getElem (by omega)) (List.getElem?_eq_getElem hi)
  refine List.pairwise_iff_getElem.2 fun i j hi hj hij => ?_
  obtain ⟨d, rfl⟩ : ∃ d, j = i + 1 + d := ⟨j - (i + 1), by omega⟩
  induction d with
  | zero => exact nb i hj
  | succ d ih => exact Int.lt_trans (ih (by omega) (by omega)) (nb (i + 1 + d) hj)
theorem ok_of {l : List Group} (h : groupsOk l = true) (i : Nat) : Asc (uOf l i) ∧ Asc (sOf l i) ∧ (uOf l i).length ≤ 31 ∧ (sOf l i).length ≤ 8 := by
  obtain ⟨h1, h2⟩ := groupsOk_in h
  by_cases hi : i < l.length
  · obtain ⟨a, b⟩ := h2 i _ (List.getElem?_eq_getElem hi)
    rw [(uOf_at hi).1, (uOf_at hi).2]
    have e1 := rise_len a (by omega)
    have e2 := rise_len b (by omega)
    exact ⟨rise_asc a.2, rise_asc b.2, by omega, by omega⟩
  · rw [(uOf_no hi).1, (uOf_no hi).2]
    exact ⟨List.Pairwise.nil, List.Pairwise.nil, by simp, by simp⟩
theorem Sl.ids_nd {α : Type} {R : α → List Value → Prop} {esz : Nat} {H : Hp} {v : Value} {l : List α} (h : Sl R esz H v l) : (idsOf v).Nodup := by
  rcases h with ⟨rfl, rfl⟩ | ⟨id, off, cap, o, rfl, _⟩ <;> simp [idsOf]
/-- Two rows of numbers, made anew from N on. -/
def Two (N : Nat) (H : Hp) (x y : Value) (p q : List Int) : Prop := SlI H x p ∧ SlI H y q ∧ OwnS N x ∧ OwnS N y ∧ (∀ j ∈ idsOf x, j ∉ idsOf y)
theorem Two.nd {N : Nat} {H : Hp} {x y : Value} {p q : List Int} (h : Two N H x y p q) : (idsOf x ++ idsOf y).Nodup :=
  List.nodup_append.2 ⟨h.1.ids_nd, h.2.1.ids_nd, fun a ha b hb e => by subst e; exact h.2.2.2.2 a ha hb⟩
theorem Two.ge {N : Nat} {H : Hp} {x y : Value} {p q : List Int} (h : Two N H x y p q) : ∀ j ∈ idsOf x ++ idsOf y, N ≤ j ∧ j < H.length := fun j hj => by
  rcases List.mem_append.1 hj with hj | hj
  · exact ⟨own_ge h.2.2.1 j hj, h.1.ids j hj⟩
  · exact ⟨own_ge h.2.2.2.1 j hj, h.2.1.ids j hj⟩
theorem Two.pre {N : Nat} {H H' : Hp} {x y : Value} {p q : List Int} (h : Two N H x y p q) (hp : H <+: H') : Two N H' x y p q := ⟨h.1.pre hp, h.2.1.pre hp, h.2.2⟩
/-- Put behind the groups that are there. -/
theorem GL.push2 {m : Md} {N : Nat} {H K : Hp} {v u s : Value} {l : List GX} {g1 g2 : List Int} (h : GL N K v l) (hN : N ≤ K.length) (hp : K <+: H) (h2 : Two K.length H u s g1 g2)
    (hw : ∀ id, N ≤ id → m.wr id = true) (hnr : m.nr = false) (hb : l.length < 1000) :
    ∃ v' H', (∀ (st : St) (x y : X), st.H = H → exv st.ρ x = some v → ex st.ρ y = .vs 1 [u, s] → appK m st 2 48 x y = some (.val v', { st with H := H' })) ∧ GL N H' v' (l ++ [((g1, g2), u, s)]) ∧ ∀ H0 : Hp, H0.length ≤ N → H0 <+: H → H0 <+: H' :=
  (h.pre hp).push (Nat.le_trans hN hp.length_le) h2.1 h2.2.1 h2.nd (fun j hj => by
    have a := h2.ge j hj
    refine ⟨by omega, fun hm => ?_, fun hm => ?_⟩
    · have := h.sl.ids j hm
      omega
    · have := (h.far j hm).2.2
      omega) hw hnr hb

def FreshX (H : Hp) (v : Value) (H' : Hp) (gs : List Group) : Prop := H <+: H' ∧ ∃ l, GL H.length H' v l ∧ l.map (·.1) = gs
theorem GL.new {H : Hp} : GL H.length (H ++ [[]]) (.slice (some ⟨H.length, 0, some 2⟩) 0 (0 * 2)) [] :=
  ⟨.inr ⟨H.length, 0, 0, [], rfl, by simp, by simp, by simp, by simp, fun i a hi => by simp at hi⟩, .inr ⟨_, _, _, _, rfl, Nat.le_refl _⟩, by simp, by simp⟩

end Go.Proofs.Ytdplmjlbkaipiaa.Ev

/- Groups put together, the reference's way. -/
namespace Go.Proofs.Ytdplmjlbkaipiaa.Ev
set_option linter.all false
open Go
set_option maxRecDepth 4000

end Go.Proofs.Ytdplmjlbkaipiaa.Ev

/- Groups put together, the program's way. -/
namespace Go.Proofs.Ytdplmjlbkaipiaa.Ev
set_option linter.all false
open Go
set_option maxRecDepth 4000

def pa (j : Nat) (p q : List Int) : List Int := (if 1 ≤ j then p else []) ++ (if 2 ≤ j then q else [])
theorem Sl.two {H : Hp} {x y : Value} : Sl (En fun v : Value => [v]) 1 (H ++ [[x, y]]) (.slice (some ⟨H.length, 0, some 1⟩) 2 2) [x, y] :=
  .inr ⟨H.length, 0, 2, [x, y], rfl, by simp, by simp, by simp, by simp, fun i a hi => by
    match i, hi with
    | 0, hi => simp at hi; subst hi; rfl
    | 1, hi => simp at hi; subst hi; rfl
    | i + 2, hi => simp at hi⟩
theorem pa_le (j : Nat) (p q : List Int) : (pa j p q).length ≤ p.length + q.length := by
  unfold pa
  rw [List.length_append]
  split <;> split <;> simp
theorem Two.mono {N N' : Nat} {H : Hp} {x y : Value} {p q : List Int} (h : Two N H x y p q) (hn : N' ≤ N) : Two N' H x y p q := ⟨h.1, h.2.1, h.2.2.1.mono hn, h.2.2.2.1.mono hn, h.2.2.2.2⟩
/-- Both rows made to rise. -/
theorem Two.cmp {N : Nat} {H H1 H2 : Hp} {x y r1 r2 : Value} {p q p' q' : List Int} (h : Two N H x y p q) (c1 : Cmp H x p' r1 H1) (c2 : Cmp H1 y q' r2 H2) : Two N H2 r1 r2 p' q' ∧ (∀ j, j < N → H2[j]? = H[j]?) ∧ H2.length = H.length := by
  obtain ⟨s1, o1, f1, n1, i1⟩ := c1
  obtain ⟨s2, o2, f2, n2, i2⟩ := c2
  have hd := h.2.2.2.2
  refine ⟨⟨s1.frame (fun _ _ _ h => h) (fun id off e ln cap hv => f2 id (hd id (i1 id (by subst hv; simp [idsOf])))), s2, o1 _ h.2.2.1, o2 _ h.2.2.2.1, fun j hj hm => hd j (i1 j hj) (i2 j hm)⟩, fun j hj => ?_, by omega⟩
  rw [f2 j (own_notin h.2.2.2.1 hj), f1 j (own_notin h.2.2.1 hj)]
theorem f51 {m : Md} {H : Hp} {va vb : Value} {a b : List Group} (ha : SlG H va a) (hb : SlG H vb b) (hw : Wr m H) (hnr : m.nr = false) : Fun EE m 51 [va, vb] H fun r H' => FreshX H r H' (mergeL a b) := by
  refine fun_f rfl rfl k51 (by simp [c51]) ?_
  have p0 : H <+: H ++ [[]] := List.prefix_append _ _
  have w0 := hw.pre p0
  have g0 : GL H.length (H ++ [[]]) (.slice (some ⟨H.length, 0, some 2⟩) 0 (0 * 2)) [] := GL.new
  generalize hwv : Value.slice (some ⟨H.length, 0, some 2⟩) 0 (0 * 2) = wv0 at g0
  have ha0 := ha.preG p0
  have hb0 := hb.preG p0
  have aa := fun {m draw s d ts Q} => callT_at (m := m) (draw := draw) (s := s) (d := d) (ts := ts) (Q := Q) (f41 ha0)
  have ab := fun {m draw s d ts Q} => callT_at (m := m) (draw := draw) (s := s) (d := d) (ts := ts) (Q := Q) (f41 hb0)
  have nope : ¬ (groupsOk a = true ∧ groupsOk b = true) → FreshX H wv0 (H ++ [[]]) (mergeL a b) := fun h => by
    rw [mergeL_no h]
    exact ⟨p0, [], g0, rfl⟩
  simp only [go_sem, ↓reduceIte, Nat.reduceEqDiff, reduceCtorEq, Nat.reduceAdd, Nat.reduceLeDiff, Nat.reduceMul, c51, fillL, hwv, aa, w0]
  cases hoa : groupsOk a <;> simp only [go_sem, ↓reduceIte, Nat.reduceEqDiff, reduceCtorEq, Nat.reduceAdd, Nat.reduceLeDiff, Nat.reduceMul, hoa, ab, w0]
  · exact nope (fun h => by rw [hoa] at h; cases h.1)
  cases hob : groupsOk b <;> simp only [go_sem, ↓reduceIte, Nat.reduceEqDiff, reduceCtorEq, Nat.reduceAdd, Nat.reduceLeDiff, Nat.reduceMul, hob]
  · exact nope (fun h => by rw [hob] at h; cases h.2)
  rw [mergeL_yes ⟨hoa, hob⟩]
  have la := (groupsOk_in hoa).1
  have lb := (groupsOk_in hob).1
  have hmx : (if (b.length : Int) > (a.length : Int) then (b.length : Int) else (a.length : Int)) = ((max a.length b.length : Nat) : Int) := by split <;> omega
  simp only [go_sem, ↓reduceIte, Nat.reduceEqDiff, reduceCtorEq, Nat.reduceAdd, Nat.reduceLeDiff, Nat.reduceMul, ha0.len, hb0.len, mxK, hmx]
  generalize hM : max a.length b.length = M
  have hM8 : M ≤ 8 := by omega
  refine go_for M (fun i s => H <+: s.H ∧ s.ρ 0 = .val va ∧ s.ρ 1 = .val vb ∧ s.ρ 4 = .val (.slice none 0 0) ∧ s.ρ 24 = .val (.int .i64 M) ∧ s.ρ 25 = .val (.int .i64 i) ∧ ∃ wv l, s.ρ 5 = .val wv ∧ GL H.length s.H wv l ∧ l.map (·.1) = (List.range i).map (mgG a b))
    (fun s => H <+: s.H ∧ s.ρ 4 = .val (.slice none 0 0) ∧ ∃ wv l, s.ρ 5 = .val wv ∧ GL H.length s.H wv l ∧ l.map (·.1) = (List.range M).map (mgG a b)) ?_ ?_ ?_
  · exact ⟨p0, by simp [upd, ini], by simp [upd, ini], by simp [upd], by simp [upd], by simp [upd], wv0, [], by simp [upd], g0, rfl⟩
  · rintro i s hi ⟨kH, k0, k1, k4, k24, k25, wv, l, k5, kg, kl⟩
    have kw := hw.pre kH
    have hll : l.length = i := by have := congrArg List.length kl; simpa using this
    have w1 := wrap64 ((i : Int) + 1) (by omega) (by omega)
    have oka := ok_of hoa i
    have okb := ok_of hob i
    simp only [go_sem, ↓reduceIte, Nat.reduceEqDiff, reduceCtorEq, Nat.reduceAdd, Nat.reduceLeDiff, Nat.reduceMul, k0, k1, k4, k5, k24, k25]
    cases q1 : decide ((i : Int) < (M : Int)) <;> simp only [go_sem, ↓reduceIte, Nat.reduceEqDiff, reduceCtorEq, Nat.reduceAdd, Nat.reduceLeDiff, Nat.reduceMul, k0, k1, k4, k5, k24, k25, q1, buildK, fillL, exps]
    · have : i = M := by have := of_decide_eq_false q1; omega
      subst this
      exact ⟨kH, wv, l, rfl, kg, kl⟩
    have hiM : i < M := by have := of_decide_eq_true q1; omega
    have pN : s.H <+: s.H ++ [[va, vb]] := List.prefix_append _ _
    simp only [go_sem, ↓reduceIte, Nat.reduceEqDiff, reduceCtorEq, Nat.reduceAdd, Nat.reduceLeDiff, Nat.reduceMul, k0, k1, ha.vc, hb.vc]
    have hTwo : Sl (En fun v : Value => [v]) 1 (s.H ++ [[va, vb]]) (.slice (some ⟨s.H.length, 0, some 1⟩) 2 2) [va, vb] := Sl.two
    have sa := (ha.preG kH).preG pN
    have sb := (hb.preG kH).preG pN
    have wN := kw.pre pN
    generalize hN' : s.H ++ [[va, vb]] = N' at hTwo pN sa sb wN
    have nN : N'.length = s.H.length + 1 := by rw [← hN']; simp
    generalize hsl : Value.slice (some ⟨s.H.length, 0, some 1⟩) 2 2 = sl at hTwo
    simp only [go_sem, ↓reduceIte, Nat.reduceEqDiff, reduceCtorEq, Nat.reduceAdd, Nat.reduceLeDiff, Nat.reduceMul, hTwo.len]
    refine go_for 2 (fun j t => N' <+: t.H ∧ t.ρ 0 = .val va ∧ t.ρ 1 = .val vb ∧ t.ρ 4 = .val (.slice none 0 0) ∧ t.ρ 24 = .val (.int .i64 M) ∧ t.ρ 25 = .val (.int .i64 i) ∧ t.ρ 5 = .val wv ∧ t.ρ 6 = .val (.int .i64 i) ∧ t.ρ 31 = .val sl ∧ t.ρ 32 = .val (.int .i64 2) ∧ t.ρ 33 = .val (.int .i64 j) ∧ ∃ x y, t.ρ 7 = .bx s.gn [x, y] ∧ Two N'.length t.H x y (pa j (uOf a i) (uOf b i)) (pa j (sOf a i) (sOf b i)))
      (fun t => N' <+: t.H ∧ t.ρ 0 = .val va ∧ t.ρ 1 = .val vb ∧ t.ρ 4 = .val (.slice none 0 0) ∧ t.ρ 24 = .val (.int .i64 M) ∧ t.ρ 25 = .val (.int .i64 i) ∧ t.ρ 5 = .val wv ∧ ∃ x y, t.ρ 7 = .bx s.gn [x, y] ∧ Two N'.length t.H x y (uOf a i ++ uOf b i) (sOf a i ++ sOf b i)) ?_ ?_ ?_
    · exact ⟨List.prefix_refl _, by simp [upd, k0], by simp [upd, k1], by simp [upd, k4], by simp [upd, k24], by simp [upd, k25], by simp [upd, k5], by simp [upd], by simp [upd], by simp [upd], by simp [upd], .slice none 0 0, .slice none 0 0, by simp [upd], .inl ⟨rfl, rfl⟩, .inl ⟨rfl, rfl⟩, .inl rfl, .inl rfl, by simp [idsOf]⟩
    · rintro j t hj ⟨tH, t0, t1, t4, t24, t25, t5, t6, t31, t32, t33, x, y, t7, tt⟩
      simp only [go_sem, ↓reduceIte, Nat.reduceEqDiff, reduceCtorEq, Nat.reduceAdd, Nat.reduceLeDiff, Nat.reduceMul, t0, t1, t4, t24, t25, t5, t6, t31, t32, t33, t7]
      cases q2 : decide ((j : Int) < 2) <;> simp only [go_sem, ↓reduceIte, Nat.reduceEqDiff, reduceCtorEq, Nat.reduceAdd, Nat.reduceLeDiff, Nat.reduceMul, t0, t1, t4, t24, t25, t5, t6, t31, t32, t33, t7, q2]
      · have : j = 2 := by have := of_decide_eq_false q2; omega
        subst this
        exact ⟨tH, x, y, rfl, tt⟩
      have hj2 : j < 2 := by have := of_decide_eq_true q2; omega
      have hT : ∃ tv tl, [va, vb][j]? = some tv ∧ SlG N' tv tl ∧ (uOf tl i).length ≤ 31 ∧ (sOf tl i).length ≤ 8 ∧ pa (j + 1) (uOf a i) (uOf b i) = pa j (uOf a i) (uOf b i) ++ uOf tl i ∧ pa (j + 1) (sOf a i) (sOf b i) = pa j (sOf a i) (sOf b i) ++ sOf tl i := by
        match j, hj2 with
        | 0, _ => exact ⟨va, a, rfl, sa, oka.2.2.1, oka.2.2.2, by simp [pa], by simp [pa]⟩
        | 1, _ => exact ⟨vb, b, rfl, sb, okb.2.2.1, okb.2.2.2, by simp [pa], by simp [pa]⟩
      obtain ⟨tv, tl, hg, sT, lu, ls, eu, es⟩ := hT
      obtain ⟨id, p, o, ho, hr, hp, hia⟩ := (hTwo.pre tH).elem hg
      have hr : (o.drop p).take 1 = [tv] := hr
      have g0 : o[p]? = some tv := by simpa using getElem?_of_take hr (j := 0) (by omega)
      have w2 := wrap64 ((j : Int) + 1) (by omega) (by omega)
      have sTt := sT.preG tH
      have lpu := pa_le j (uOf a i) (uOf b i)
      have lps := pa_le j (sOf a i) (sOf b i)
      simp only [go_sem, ↓reduceIte, Nat.reduceEqDiff, reduceCtorEq, Nat.reduceAdd, Nat.reduceLeDiff, Nat.reduceMul, t0, t1, t4, t24, t25, t5, t6, t31, t32, t33, t7, hia, ho, g0, sTt.len]
      cases q3 : decide ((i : Int) < (tl.length : Int)) <;> simp only [go_sem, ↓reduceIte, Nat.reduceEqDiff, reduceCtorEq, Nat.reduceAdd, Nat.reduceLeDiff, Nat.reduceMul, t0, t1, t4, t24, t25, t5, t6, t31, t32, t33, t7, q3, w2]
      · have e := uOf_no (l := tl) (i := i) (by have := of_decide_eq_false q3; omega)
        rw [e.1, List.append_nil] at eu
        rw [e.2, List.append_nil] at es
        exact ⟨hj2, tH, by simp, x, y, rfl, by rw [eu, es]; exact tt⟩
      have hil : i < tl.length := by have := of_decide_eq_true q3; omega
      obtain ⟨id2, p2, o2, gu, gs, ho2, h0, h1, hr2, hp2, hgu, hgs, hia2⟩ := sTt.group (List.getElem?_eq_getElem hil)
      rw [← (uOf_at hil).1] at hgu
      rw [← (uOf_at hil).2] at hgs
      have hid2 := (List.getElem?_eq_some_iff.1 ho2).1
      obtain ⟨sx, sy, ox, oy, hd⟩ := tt
      have wN' : ∀ id, N'.length ≤ id → m.wr id = true := wN
      obtain ⟨x', H1, a1, a2, a3, a4, a5, a6, a7⟩ := sx.joinI (m := m) hgu ox tH.length_le wN' (by omega)
      have r1 := a7 N' (Nat.le_refl _) tH
      have sy1 := sy.aside (fun j hj hm => hd j hm hj) a4
      refine go_draw ?_
      simp only [go_sem, ↓reduceIte, Nat.reduceEqDiff, reduceCtorEq, Nat.reduceAdd, Nat.reduceLeDiff, Nat.reduceMul, t0, t1, t4, t24, t25, t5, t6, t31, t32, t33, t7, hia2, ho2, h0, h1]
      rw [a1]
      rotate_left
      · rfl
      · rfl
      · rfl
      simp only [go_sem, ↓reduceIte, Nat.reduceEqDiff, reduceCtorEq, Nat.reduceAdd, Nat.reduceLeDiff, Nat.reduceMul, t0, t1, t4, t24, t25, t5, t6, t31, t32, t33, t7, a2.vc]
      refine ⟨by rfl, ?_⟩
      obtain ⟨id3, p3, o3, gu3, gs3, ho3, h03, h13, hr3, hp3, hgu3, hgs3, hia3⟩ := (sT.preG r1).group (List.getElem?_eq_getElem hil)
      rw [← (uOf_at hil).2] at hgs3
      obtain ⟨y', H2, b1, b2, b3, b4, b5, b6, b7⟩ := sy1.joinI (m := m) hgs3 oy r1.length_le wN' (by omega)
      have r2 := b7 N' (Nat.le_refl _) r1
      have hdd : ∀ j ∈ idsOf x', j ∉ idsOf y := fun j hj hm => by
        rcases a6 j hj with h | h
        · exact hd j h hm
        · have := sy.ids j hm
          omega
      refine go_draw ?_
      simp only [go_sem, ↓reduceIte, Nat.reduceEqDiff, reduceCtorEq, Nat.reduceAdd, Nat.reduceLeDiff, Nat.reduceMul, t0, t1, t4, t24, t25, t5, t6, t31, t32, t33, t7, hia3, ho3, h03, h13]
      rw [b1]
      rotate_left
      · rfl
      · rfl
      · rfl
      simp only [go_sem, ↓reduceIte, Nat.reduceEqDiff, reduceCtorEq, Nat.reduceAdd, Nat.reduceLeDiff, Nat.reduceMul, t0, t1, t4, t24, t25, t5, t6, t31, t32, t33, t7, w2, b2.vc]
      refine ⟨by rfl, hj2, r2, by simp, x', y', rfl, ?_⟩
      rw [eu, es]
      refine ⟨a2.aside hdd b4, b2, a3, b3, fun j hj hm => ?_⟩
      rcases b6 j hm with h | h
      · exact hdd j hj h
      · have := a2.ids j hj
        omega
    · rintro t ⟨tH, t0, t1, t4, t24, t25, t5, x, y, t7, tt⟩
      have hwo : ∀ id ∈ idsOf x ++ idsOf y, m.wr id = true := fun id hid => wN id (tt.ge id hid).1
      refine go_draw ?_
      simp only [go_sem, ↓reduceIte, Nat.reduceEqDiff, reduceCtorEq, Nat.reduceAdd, Nat.reduceLeDiff, Nat.reduceMul, t0, t1, t4, t24, t25, t5, t7]
      refine callT_arg (by rfl) (fun m' hm1 hm2 hm3 => f66 tt.1 (by rw [List.length_append]; omega) (fun id hid => hm2 id (by simpa using hid) (hwo id (List.mem_append_left _ hid)))) rfl (wN.pre tH) fun r1 H1 c1 => ?_
      have sy1 : SlI H1 y (sOf a i ++ sOf b i) := tt.2.1.frame (fun _ _ _ h => h) (fun id off e ln cap hv => c1.2.2.1 id (fun hm => tt.2.2.2.2 id hm (by subst hv; simp [idsOf])))
      have n1 : H1.length = t.H.length := c1.2.2.2.1
      have wH1 : Wr m H1 := fun id hid => wN id (by have := tH.length_le; omega)
      simp only [go_sem, ↓reduceIte, Nat.reduceEqDiff, reduceCtorEq, Nat.reduceAdd, Nat.reduceLeDiff, Nat.reduceMul, t0, t1, t4, t24, t25, t5, t7]
      refine callT_arg (by rfl) (fun m' hm1 hm2 hm3 => f66 sy1 (by rw [List.length_append]; omega) (fun id hid => hm2 id (by simpa using hid) (hwo id (List.mem_append_right _ hid)))) rfl wH1 fun r2 H2 c2 => ?_
      obtain ⟨T2, fr2, n2⟩ := tt.cmp c1 c2
      have q2 : s.H <+: H2 := pre_keep (pN.trans tH) (fun j hj => fr2 j (by omega)) (by have := (pN.trans tH).length_le; omega)
      obtain ⟨v3, H3, d1, d2, d3⟩ := kg.push2 (m := m) kH.length_le q2 (T2.mono (by omega)) hw hnr (by omega)
      simp only [go_sem, ↓reduceIte, Nat.reduceEqDiff, reduceCtorEq, Nat.reduceAdd, Nat.reduceLeDiff, Nat.reduceMul, t0, t1, t4, t24, t25, t5, t7, buildK, fillL, exps, T2.1.vc, T2.2.1.vc]
      rw [d1]
      rotate_left
      · rfl
      · rfl
      · rfl
      simp only [go_sem, ↓reduceIte, Nat.reduceEqDiff, reduceCtorEq, Nat.reduceAdd, Nat.reduceLeDiff, Nat.reduceMul, t0, t1, t4, t24, t25, t5, t7, w1]
      exact ⟨by rfl, hiM, d3 H (Nat.le_refl _) (kH.trans q2), by simp, v3, _, rfl, d2, by rw [List.map_append, List.map_append, kl]; rfl⟩
  · rintro s ⟨kH, k4, wv, l, k5, kg, kl⟩
    simp only [go_sem, ↓reduceIte, Nat.reduceEqDiff, reduceCtorEq, Nat.reduceAdd, Nat.reduceLeDiff, Nat.reduceMul, k4, k5]
    exact ⟨kH, l, kg, kl⟩
end Go.Proofs.Ytdplmjlbkaipiaa.Ev

/- Groups that are marked, each number by its own; that what is marked holds. -/
namespace Go.Proofs.Ytdplmjlbkaipiaa.Ev
set_option linter.all false
open Go
set_option maxRecDepth 4000

theorem Sl.turn {α β : Type} {R : α → List Value → Prop} {R' : β → List Value → Prop} {esz : Nat} {H H' : Hp} {v : Value} {l : List α} {l' : List β} (h : Sl R esz H v l) (hlen : l'.length = l.length)
    (hr : ∀ (i : Nat) a a' cs, l[i]? = some a → l'[i]? = some a' → R a cs → R' a' cs) (hH : ∀ id ∈ idsOf v, H'[id]? = H[id]?) : Sl R' esz H' v l' := by
  rcases h with ⟨rfl, rfl⟩ | ⟨id, off, cap, o, rfl, ho, hc, hn, hrm, hr2⟩
  · exact .inl ⟨rfl, List.eq_nil_of_length_eq_zero hlen⟩
  · refine .inr ⟨id, off, cap, o, by rw [hlen], by rw [hH id (by simp [idsOf])]; exact ho, hc, by rw [hlen]; exact hn, by rw [hlen]; exact hrm, fun i a' hi => ?_⟩
    have hil := (List.getElem?_eq_some_iff.1 hi).1
    have := List.getElem?_eq_getElem (l := l) (i := i) (by omega)
    exact hr i _ a' _ this hi (hr2 i _ this)
theorem GL.keep {N : Nat} {H H' : Hp} {v : Value} {l : List GX} (h : GL N H v l) (hk : ∀ j, N ≤ j → H'[j]? = H[j]?) (hlen : H'.length = H.length) : GL N H' v l := by
  have fr : ∀ {w : Value} {k : List Int}, SlI H w k → (∀ j ∈ idsOf w, N ≤ j) → SlI H' w k := fun hw hj => hw.frame (fun _ _ _ h => h) fun id off e ln cap hv => hk id (hj id (by subst hv; simp [idsOf]))
  exact ⟨h.sl.frame (fun x hx cs ⟨e, p, q⟩ => ⟨e, fr p fun j hj => (h.far j (List.mem_flatMap.2 ⟨x, hx, List.mem_append_left _ hj⟩)).2.1, fr q fun j hj => (h.far j (List.mem_flatMap.2 ⟨x, hx, List.mem_append_right _ hj⟩)).2.1⟩)
    fun id off e ln cap hv => hk id (own_ge h.own id (by subst hv; simp [idsOf])), h.own, h.nd, fun j hj => by rw [hlen]; exact h.far j hj⟩

end Go.Proofs.Ytdplmjlbkaipiaa.Ev

/- Draws of groups. -/
namespace Go.Proofs.Ytdplmjlbkaipiaa.Ev
set_option linter.all false
open Go
set_option maxRecDepth 4000

theorem GL.parts {N : Nat} {H : Hp} {v : Value} {l : List GX} (h : GL N H v l) : ∀ x ∈ l, SlI H x.2.1 x.1.1 ∧ SlI H x.2.2 x.1.2 := fun x hx => by
  obtain ⟨i, hi⟩ := List.getElem?_of_mem hx
  obtain ⟨id, p, o, ho, ⟨e, a, b⟩, _⟩ := h.sl.elem hi
  exact ⟨a, b⟩
theorem Sl.still {α : Type} {R : α → List Value → Prop} {esz : Nat} {H H' : Hp} {v : Value} {l : List α} (h : Sl R esz H v l) (hk : ∀ j ∈ idsOf v, H'[j]? = H[j]?) : Sl R esz H' v l :=
  h.frame (fun _ _ _ h => h) fun id off e ln cap hv => hk id (by subst hv; simp [idsOf])
theorem GL.still {N : Nat} {H H' : Hp} {v : Value} {l : List GX} (h : GL N H v l) (hk : ∀ j ∈ idsOf v ++ l.flatMap idsX, H'[j]? = H[j]?) (hlen : H.length ≤ H'.length) : GL N H' v l :=
  ⟨h.sl.frame (fun x hx cs ⟨e, p, q⟩ => ⟨e, p.still fun j hj => hk j (List.mem_append_right _ (List.mem_flatMap.2 ⟨x, hx, List.mem_append_left _ hj⟩)), q.still fun j hj => hk j (List.mem_append_right _ (List.mem_flatMap.2 ⟨x, hx, List.mem_append_right _ hj⟩))⟩)
    fun id off e ln cap hv => hk id (List.mem_append_left _ (by subst hv; simp [idsOf])), h.own, h.nd, fun j hj => ⟨(h.far j hj).1, (h.far j hj).2.1, by have := (h.far j hj).2.2; omega⟩⟩
/-- The first group changed. -/
theorem GL.put0 {N : Nat} {H H5 : Hp} {v : Value} {l : List GX} {x y : GX} (h : GL N H v (x :: l)) (hN : N ≤ H.length) (hlen : H.length ≤ H5.length) (hf : ∀ j, j < H.length → j ∉ idsX x → H5[j]? = H[j]?)
    (hy1 : SlI H5 y.2.1 y.1.1) (hy2 : SlI H5 y.2.2 y.1.2) (hnd : (idsX y).Nodup) (hids : ∀ j ∈ idsX y, j ∈ idsX x ∨ H.length ≤ j) :
    ∃ id p o, H5[id]? = some o ∧ H[id]? = some o ∧ N ≤ id ∧ id < H.length ∧ p + 2 ≤ o.length ∧ (o.drop p).take 2 = [x.2.1, x.2.2] ∧ (∀ (s : St) (a b : X), exv s.ρ a = some v → exv s.ρ b = some (.int .i64 0) → iadrK s 2 a b = some (.val (.pointer (some ⟨id, p, some o.length⟩)), s)) ∧
      GL N (H5.set id (spl o p [y.2.1, y.2.2])) v (y :: l) := by
  have hvl := h.sl.ids
  have hfar := h.far
  have hvf : ∀ j ∈ idsOf v, H5[j]? = H[j]? := fun j hj => hf j (hvl j hj) (fun hm => (hfar j (by simp [hm])).1 hj)
  have sh : Sl (fun (z : GX) cs => cs = [z.2.1, z.2.2]) 2 H5 v (x :: l) := (h.sl.frame (fun _ _ _ h => h.1) fun _ _ _ _ _ _ => rfl).still hvf
  obtain ⟨id, p, o, ho, hp, hid, hR, hia, hst⟩ := sh.both (i := 0) (by simp)
  have hidv : id ∈ idsOf v := by rw [hid]; simp
  have hst := hst y [y.2.1, y.2.2] rfl rfl
  rw [List.set_cons_zero] at hst
  have hset : ∀ j, j ≠ id → (H5.set id (spl o p [y.2.1, y.2.2]))[j]? = H5[j]? := fun j hj => List.getElem?_set_ne (fun e => hj e.symm)
  have hnv : ∀ j ∈ idsX y, j ∉ idsOf v := fun j hj hm => by
    rcases hids j hj with h2 | h2
    · exact (hfar j (by simp [h2])).1 hm
    · have := hvl j hm
      omega
  have nd := h.nd
  rw [List.flatMap_cons] at nd
  obtain ⟨nd1, nd2, nd3⟩ := List.nodup_append.1 nd
  refine ⟨id, p, o, ho, by rw [← hvf id hidv]; exact ho, own_ge h.own id hidv, hvl id hidv, hp, hR, fun s a b ha hb => hia s a b ha (by rw [hb]; rfl), ?_⟩
  refine ⟨hst.turn rfl (fun i a a' cs hi hi' e => ?_) (fun _ _ => rfl), h.own, ?_, fun j hj => ?_⟩
  · rw [hi] at hi'
    cases hi'
    cases i with
    | zero =>
      simp at hi
      subst hi
      refine ⟨e, hy1.still fun j hj => hset j (fun e => hnv j (List.mem_append_left _ hj) (by rw [e]; exact hidv)), hy2.still fun j hj => hset j (fun e => hnv j (List.mem_append_right _ hj) (by rw [e]; exact hidv))⟩
    | succ i =>
      rw [List.getElem?_cons_succ] at hi
      have ham := List.mem_of_getElem? hi
      obtain ⟨p1, p2⟩ := h.parts a (List.mem_cons_of_mem _ ham)
      have hin : ∀ j ∈ idsX a, j ∈ l.flatMap idsX := fun j hj => List.mem_flatMap.2 ⟨a, ham, hj⟩
      have key : ∀ j ∈ idsX a, (H5.set id (spl o p [y.2.1, y.2.2]))[j]? = H[j]? := fun j hj => by
        have f1 := hfar j (by rw [List.flatMap_cons]; exact List.mem_append_right _ (hin j hj))
        rw [hset j (fun e => f1.1 (by rw [e]; exact hidv)), hf j f1.2.2 (fun hm => nd3 j hm j (hin j hj) rfl)]
      exact ⟨e, p1.still fun j hj => key j (List.mem_append_left _ hj), p2.still fun j hj => key j (List.mem_append_right _ hj)⟩
  · rw [List.flatMap_cons]
    refine List.nodup_append.2 ⟨hnd, nd2, fun a ha b hb e => ?_⟩
    subst e
    rcases hids a ha with h2 | h2
    · exact nd3 a h2 a hb rfl
    · have := (hfar a (by rw [List.flatMap_cons]; exact List.mem_append_right _ hb)).2.2
      omega
  · rw [List.length_set]
    rw [List.flatMap_cons] at hj
    have lt : ∀ {w : Value} {k : List Int}, SlI H5 w k → ∀ j ∈ idsOf w, j < H5.length := fun hw j hj => hw.ids j hj
    rcases List.mem_append.1 hj with hj | hj
    · refine ⟨hnv j hj, ?_, ?_⟩
      · rcases hids j hj with h2 | h2
        · exact (hfar j (by simp [h2])).2.1
        · omega
      · rcases List.mem_append.1 hj with hj | hj
        · exact hy1.ids j hj
        · exact hy2.ids j hj
    · have f1 := hfar j (by rw [List.flatMap_cons]; exact List.mem_append_right _ hj)
      exact ⟨f1.1, f1.2.1, by omega⟩

theorem f94 {m : Md} {H : Hp} {c v : Value} {id : Nat} {l : List Int} (hc : Cur H c id) (hw : m.wr id = true) (hl : SlI H v l) (h0 : 0 < l.length) (h1 : l.length ≤ 256) (hid : id ∉ idsOf v) : Fun EE m 94 [c, v] H fun r H' => ∃ x : Int, r = .int .i64 x ∧ CS H H' c id := by
  refine fun_f rfl rfl k94 (by simp [c94]) ?_
  simp only [go_sem, ↓reduceIte, Nat.reduceEqDiff, reduceCtorEq, Nat.reduceAdd, Nat.reduceLeDiff, Nat.reduceMul, c94, hl.len]
  refine callT_now (f68 hc (by omega) (by omega) hw) fun r H1 ⟨x, e, hx0, hx1, hs⟩ => ?_
  subst e
  obtain ⟨k, rfl⟩ : ∃ k : Nat, x = k := ⟨x.toNat, by omega⟩
  have hk : k < l.length := by omega
  obtain ⟨id2, p, o, ho, hr, hia⟩ := (hl.cs hs hid).int (List.getElem?_eq_getElem hk)
  simp only [go_sem, ↓reduceIte, Nat.reduceEqDiff, reduceCtorEq, Nat.reduceAdd, Nat.reduceLeDiff, Nat.reduceMul, hia, ho, hr]
  exact ⟨_, rfl, hs⟩
end Go.Proofs.Ytdplmjlbkaipiaa.Ev

/- Groups drawn. -/
namespace Go.Proofs.Ytdplmjlbkaipiaa.Ev
set_option linter.all false
open Go
set_option maxRecDepth 4000

theorem Two.still {N : Nat} {H H' : Hp} {x y : Value} {p q : List Int} (h : Two N H x y p q) (hk : ∀ j, N ≤ j → H'[j]? = H[j]?) : Two N H' x y p q :=
  ⟨h.1.still fun j hj => hk j (own_ge h.2.2.1 j hj), h.2.1.still fun j hj => hk j (own_ge h.2.2.2.1 j hj), h.2.2⟩
/-- Groups drawn, a group being drawn. -/
structure DG (H : Hp) (M : Nat) (H' : Hp) (c : Value) (id : Nat) (wv : Value) (l : List GX) (x y : Value) (p q : List Int) : Prop where
  dr : Dr H H' c id
  gl : GL H.length H' wv l
  two : Two M H' x y p q
  le : M ≤ H'.length
  ge : H.length ≤ M
  lt : ∀ j ∈ idsOf wv ++ l.flatMap idsX, j < M
theorem DG.cs {H H1 H2 : Hp} {M id : Nat} {c wv x y : Value} {l : List GX} {p q : List Int} (h : DG H M H1 c id wv l x y p q) (hid : id < H.length) (k : CS H1 H2 c id) : DG H M H2 c id wv l x y p q :=
  have h1 := h.ge
  have h3 : H2.length = H1.length := k.2.2
  ⟨h.dr.cs k, h.gl.keep (fun j hj => k.2.1 j (by omega)) h3, h.two.still fun j hj => k.2.1 j (by omega), by have := h.le; omega, h1, h.lt⟩
/-- One number more, on the first side. -/
theorem DG.one1 {m : Md} {H H1 : Hp} {M id : Nat} {c wv x y : Value} {l : List GX} {p q : List Int} (a : Int) (h : DG H M H1 c id wv l x y p q) (hid : id < H.length) (hw : Wr m H) (hb : p.length < 1048576) :
    ∃ x' H2, (∀ (s : St) (a' b : X), s.H = H1 → exv s.ρ a' = some x → ex s.ρ b = .vs 1 [.int .i64 a] → appK m s 1 8 a' b = some (.val x', { s with H := H2 })) ∧ DG H M H2 c id wv l x' y (p ++ [a]) q := by
  obtain ⟨sx, sy, ox, oy, hd⟩ := h.two
  have hge := h.ge
  have hle := h.le
  obtain ⟨x', H2, a1, a2, a3, a4, a5, a6, a7⟩ := sx.one (m := m) a ox h.le (fun i hi => hw i (by omega)) hb
  have hn : ∀ j, j < M → j ∉ idsOf x := fun j hj hm => by have := own_ge ox j hm; omega
  refine ⟨x', H2, a1, ⟨h.dr.app hid (ox.mono hge) a4 a5, h.gl.still (fun j hj => a4 j (by have := h.lt j hj; omega) (hn j (h.lt j hj))) a5, ⟨a2, sy.aside (fun j hj hm => hd j hm hj) a4, a3, oy, fun j hj hm => ?_⟩, by omega, hge, h.lt⟩⟩
  rcases a6 j hj with h2 | h2
  · exact hd j h2 hm
  · have := sy.ids j hm
    omega
theorem DG.one2 {m : Md} {H H1 : Hp} {M id : Nat} {c wv x y : Value} {l : List GX} {p q : List Int} (a : Int) (h : DG H M H1 c id wv l x y p q) (hid : id < H.length) (hw : Wr m H) (hb : q.length < 1048576) :
    ∃ y' H2, (∀ (s : St) (a' b : X), s.H = H1 → exv s.ρ a' = some y → ex s.ρ b = .vs 1 [.int .i64 a] → appK m s 1 8 a' b = some (.val y', { s with H := H2 })) ∧ DG H M H2 c id wv l x y' p (q ++ [a]) := by
  obtain ⟨sx, sy, ox, oy, hd⟩ := h.two
  have hge := h.ge
  have hle := h.le
  obtain ⟨y', H2, a1, a2, a3, a4, a5, a6, a7⟩ := sy.one (m := m) a oy h.le (fun i hi => hw i (by omega)) hb
  have hn : ∀ j, j < M → j ∉ idsOf y := fun j hj hm => by have := own_ge oy j hm; omega
  refine ⟨y', H2, a1, ⟨h.dr.app hid (oy.mono hge) a4 a5, h.gl.still (fun j hj => a4 j (by have := h.lt j hj; omega) (hn j (h.lt j hj))) a5, ⟨sx.aside hd a4, a2, ox, a3, fun j hj hm => ?_⟩, by omega, hge, h.lt⟩⟩
  rcases a6 j hm with h2 | h2
  · exact hd j hj h2
  · have := sx.ids j hj
    omega
theorem DG.push {m : Md} {H H1 : Hp} {M id : Nat} {c wv x y : Value} {l : List GX} {p q : List Int} (h : DG H M H1 c id wv l x y p q) (hid : id < H.length) (hw : Wr m H) (hnr : m.nr = false) (hb : l.length < 1000) :
    ∃ v' H2, (∀ (st : St) (a b : X), st.H = H1 → exv st.ρ a = some wv → ex st.ρ b = .vs 1 [x, y] → appK m st 2 48 a b = some (.val v', { st with H := H2 })) ∧ GL H.length H2 v' (l ++ [((p, q), x, y)]) ∧ Dr H H2 c id := by
  have hge := h.ge
  have hle := h.le
  have hl : H.length ≤ H1.length := h.dr.2.2
  obtain ⟨v', H2, a1, a2, a3⟩ := h.gl.push (m := m) hl h.two.1 h.two.2.1 h.two.nd (fun j hj => by
    have := h.two.ge j hj
    exact ⟨by omega, fun hm => by have := h.lt j (List.mem_append_left _ hm); omega, fun hm => by have := h.lt j (List.mem_append_right _ hm); omega⟩) hw hnr hb
  have hp := a3 (H1.take H.length) (by rw [List.length_take]; omega) (List.take_prefix _ _)
  have hpl := hp.length_le
  rw [List.length_take] at hpl
  have key : ∀ j, j < H.length → H2[j]? = H1[j]? := fun j hj => by
    rw [pre_get hp (by rw [List.length_take]; omega), List.getElem?_take, if_pos hj]
  exact ⟨v', H2, a1, a2, ⟨h.dr.1.keep fun j hj => key j (by omega), fun j hj hne => (key j hj).trans (h.dr.2.1 j hj hne), by omega⟩⟩

theorem Dr.set {H H' : Hp} {c : Value} {id i : Nat} {r : List Value} (h : Dr H H' c id) (hid : id < H.length) (hn : H.length ≤ i) : Dr H (H'.set i r) c id :=
  have key : ∀ j, j < H.length → (H'.set i r)[j]? = H'[j]? := fun j hj => List.getElem?_set_ne (by omega)
  ⟨h.1.keep fun j hj => key j (by omega), fun j hj hne => (key j hj).trans (h.2.1 j hj hne), by rw [List.length_set]; exact h.2.2⟩
theorem Dr.pre {H H' H'' : Hp} {c : Value} {id : Nat} (h : Dr H H' c id) (hid : id < H.length) (hp : H' <+: H'') : Dr H H'' c id :=
  have hl := h.2.2
  have key : ∀ j, j < H.length → H''[j]? = H'[j]? := fun j hj => pre_get hp (by omega)
  ⟨h.1.keep fun j hj => key j (by omega), fun j hj hne => (key j hj).trans (h.2.1 j hj hne), by have := hp.length_le; omega⟩
theorem f83 {m : Md} {H : Hp} {c : Value} {id : Nat} (hc : Cur H c id) (hwi : m.wr id = true) (hw : Wr m H) (hnr : m.nr = false) : Fun EE m 83 [c] H fun r H' => ∃ l, GL H.length H' r l ∧ l.length ≤ 6 ∧ Dr H H' c id := by
  refine fun_f rfl rfl k83 (by simp [c83]) ?_
  have hid := hc.lt
  have hcp := hc.1
  subst hcp
  have d0 : Dr H (H ++ [[]]) (.pointer (some ⟨id, 0, some 3⟩)) id := Dr.grow hc (fun j hj => by rw [List.getElem?_append_left hj]) (by simp)
  have g0 : GL H.length (H ++ [[]]) (.slice (some ⟨H.length, 0, some 2⟩) 0 (0 * 2)) [] := GL.new
  generalize hwv : Value.slice (some ⟨H.length, 0, some 2⟩) 0 (0 * 2) = wv0 at g0
  simp only [go_sem, ↓reduceIte, Nat.reduceEqDiff, reduceCtorEq, Nat.reduceAdd, Nat.reduceLeDiff, Nat.reduceMul, c83, fillL, hwv]
  refine callT_now (f68 d0.1 (by omega) (by omega) hwi) fun r1 H1 ⟨n, e1, hn0, hn1, cs1⟩ => ?_
  subst e1
  have d1 := d0.cs cs1
  have g1 := g0.keep (fun j hj => cs1.2.1 j (by omega)) cs1.2.2
  obtain ⟨k0, rfl⟩ : ∃ k : Nat, n = k := ⟨n.toNat, by omega⟩
  simp only [go_sem, ↓reduceIte, Nat.reduceEqDiff, reduceCtorEq, Nat.reduceAdd, Nat.reduceLeDiff, Nat.reduceMul]
  refine go_for k0 (fun i s => s.ρ 0 = .val (.pointer (some ⟨id, 0, some 3⟩)) ∧ s.ρ 4 = .val (.int .i64 k0) ∧ s.ρ 5 = .val (.int .i64 i) ∧ Dr H s.H (.pointer (some ⟨id, 0, some 3⟩)) id ∧ ∃ wv l, s.ρ 3 = .val wv ∧ GL H.length s.H wv l ∧ l.length = i ∧ ∀ x ∈ l, x.1.1.length ≤ 100 ∧ x.1.2.length ≤ 100 ∧ OwnS H.length x.2.1 ∧ OwnS H.length x.2.2)
    (fun s => s.ρ 0 = .val (.pointer (some ⟨id, 0, some 3⟩)) ∧ s.ρ 4 = .val (.int .i64 k0) ∧ Dr H s.H (.pointer (some ⟨id, 0, some 3⟩)) id ∧ ∃ wv l, s.ρ 3 = .val wv ∧ GL H.length s.H wv l ∧ l.length = k0 ∧ ∀ x ∈ l, x.1.1.length ≤ 100 ∧ x.1.2.length ≤ 100 ∧ OwnS H.length x.2.1 ∧ OwnS H.length x.2.2) ?_ ?_ ?_
  · exact ⟨by simp [upd, ini], by simp [upd], by simp [upd], d1, wv0, [], by simp [upd], g1, rfl, by simp⟩
  · rintro i s hi ⟨k_0, k4, k5, kd, wv, l, k3, kg, kl, ks⟩
    simp only [go_sem, ↓reduceIte, Nat.reduceEqDiff, reduceCtorEq, Nat.reduceAdd, Nat.reduceLeDiff, Nat.reduceMul, k_0, k3, k4, k5]
    cases q1 : decide ((i : Int) < (k0 : Int)) <;> simp only [go_sem, ↓reduceIte, Nat.reduceEqDiff, reduceCtorEq, Nat.reduceAdd, Nat.reduceLeDiff, Nat.reduceMul, k_0, k3, k4, k5, q1, buildK, fillL, exps]
    · have : i = k0 := by have := of_decide_eq_false q1; omega
      subst this
      exact ⟨kd, wv, l, rfl, kg, kl, ks⟩
    have hik : i < k0 := by have := of_decide_eq_true q1; omega
    have w1 := wrap64 ((i : Int) + 1) (by omega) (by omega)
    have D0 : DG H s.H.length s.H (.pointer (some ⟨id, 0, some 3⟩)) id wv l (.slice none 0 0) (.slice none 0 0) [] [] := ⟨kd, kg, ⟨.inl ⟨rfl, rfl⟩, .inl ⟨rfl, rfl⟩, .inl rfl, .inl rfl, by simp [idsOf]⟩, Nat.le_refl _, kd.2.2, fun j hj => by
      rcases List.mem_append.1 hj with hj | hj
      · exact kg.sl.ids j hj
      · exact (kg.far j hj).2.2⟩
    refine go_for 5 (fun u t => t.ρ 0 = .val (.pointer (some ⟨id, 0, some 3⟩)) ∧ t.ρ 3 = .val wv ∧ t.ρ 4 = .val (.int .i64 k0) ∧ t.ρ 5 = .val (.int .i64 i) ∧ t.ρ 7 = .val (.int .i64 u) ∧ ∃ x y p q, t.ρ 6 = .bx s.gn [x, y] ∧ DG H s.H.length t.H (.pointer (some ⟨id, 0, some 3⟩)) id wv l x y p q ∧ p.length ≤ u ∧ q.length ≤ 0)
      (fun t => t.ρ 0 = .val (.pointer (some ⟨id, 0, some 3⟩)) ∧ t.ρ 3 = .val wv ∧ t.ρ 4 = .val (.int .i64 k0) ∧ t.ρ 5 = .val (.int .i64 i) ∧ ∃ x y p q, t.ρ 6 = .bx s.gn [x, y] ∧ DG H s.H.length t.H (.pointer (some ⟨id, 0, some 3⟩)) id wv l x y p q ∧ p.length ≤ 5 ∧ q.length ≤ 0) ?_ ?_ ?_
    · exact ⟨by simp [upd, k_0], by simp [upd, k3], by simp [upd, k4], by simp [upd, k5], by simp [upd], _, _, [], [], by simp [upd], D0, by simp, by simp⟩
    · rintro u t hu ⟨t0, t3, t4, t5, t7, x, y, p, q, t6, td, tp, tq⟩
      simp only [go_sem, ↓reduceIte, Nat.reduceEqDiff, reduceCtorEq, Nat.reduceAdd, Nat.reduceLeDiff, Nat.reduceMul, t0, t3, t4, t5, t6, t7]
      cases q2 : decide ((u : Int) < 5) <;> simp only [go_sem, ↓reduceIte, Nat.reduceEqDiff, reduceCtorEq, Nat.reduceAdd, Nat.reduceLeDiff, Nat.reduceMul, t0, t3, t4, t5, t6, t7, q2]
      · exact ⟨x, y, p, q, rfl, td, by omega, by omega⟩
      have hu5 : u < 5 := by have := of_decide_eq_true q2; omega
      have w2 := wrap64 ((u : Int) + 1) (by omega) (by omega)
      refine callT_now (f70 td.dr.1 (by omega) (by omega) hwi) fun r2 H2 ⟨b, e2, cs2⟩ => ?_
      subst e2
      have td2 := td.cs hid cs2
      simp only [go_sem, ↓reduceIte, Nat.reduceEqDiff, reduceCtorEq, Nat.reduceAdd, Nat.reduceLeDiff, Nat.reduceMul, t0, t3, t4, t5, t6, t7]
      cases b with
      | false =>
        simp only [go_sem, ↓reduceIte, Nat.reduceEqDiff, reduceCtorEq, Nat.reduceAdd, Nat.reduceLeDiff, Nat.reduceMul, t0, t3, t4, t5, t6, t7, w2]
        exact ⟨hu5, by simp, x, y, p, q, rfl, td2, by omega, by omega⟩
      | true =>
        obtain ⟨x', H3, a1, a2⟩ := td2.one1 (m := m) (u : Int) hid hw (by omega)
        simp only [go_sem, ↓reduceIte, Nat.reduceEqDiff, reduceCtorEq, Nat.reduceAdd, Nat.reduceLeDiff, Nat.reduceMul, t0, t3, t4, t5, t6, t7]
        rw [a1]
        rotate_left
        · rfl
        · rfl
        · rfl
        simp only [go_sem, ↓reduceIte, Nat.reduceEqDiff, reduceCtorEq, Nat.reduceAdd, Nat.reduceLeDiff, Nat.reduceMul, t0, t3, t4, t5, t6, t7, w2, a2.two.1.vc]
        exact ⟨hu5, by simp, x', y, _, q, rfl, a2, by simp; omega, by omega⟩
    · rintro t ⟨t0, t3, t4, t5, x, y, p, q, t6, td, tp, tq⟩
      simp only [go_sem, ↓reduceIte, Nat.reduceEqDiff, reduceCtorEq, Nat.reduceAdd, Nat.reduceLeDiff, Nat.reduceMul, t0, t3, t4, t5, t6]
      refine go_for k0 (fun u t => t.ρ 0 = .val (.pointer (some ⟨id, 0, some 3⟩)) ∧ t.ρ 3 = .val wv ∧ t.ρ 4 = .val (.int .i64 k0) ∧ t.ρ 5 = .val (.int .i64 i) ∧ t.ρ 8 = .val (.int .i64 u) ∧ ∃ x y p q, t.ρ 6 = .bx s.gn [x, y] ∧ DG H s.H.length t.H (.pointer (some ⟨id, 0, some 3⟩)) id wv l x y p q ∧ p.length ≤ 5 ∧ q.length ≤ u)
        (fun t => t.ρ 0 = .val (.pointer (some ⟨id, 0, some 3⟩)) ∧ t.ρ 3 = .val wv ∧ t.ρ 4 = .val (.int .i64 k0) ∧ t.ρ 5 = .val (.int .i64 i) ∧ ∃ x y p q, t.ρ 6 = .bx s.gn [x, y] ∧ DG H s.H.length t.H (.pointer (some ⟨id, 0, some 3⟩)) id wv l x y p q ∧ p.length ≤ 5 ∧ q.length ≤ k0) ?_ ?_ ?_
      · exact ⟨by simp [upd, t0], by simp [upd, t3], by simp [upd, t4], by simp [upd, t5], by simp [upd], x, y, p, q, by simp [upd, t6], td, tp, tq⟩
      · clear td t6 tp tq t0 t3 t4 t5
        rintro u t hu ⟨t0, t3, t4, t5, t8, x, y, p, q, t6, td, tp, tq⟩
        simp only [go_sem, ↓reduceIte, Nat.reduceEqDiff, reduceCtorEq, Nat.reduceAdd, Nat.reduceLeDiff, Nat.reduceMul, t0, t3, t4, t5, t6, t8]
        cases q2 : decide ((u : Int) < (k0 : Int)) <;> simp only [go_sem, ↓reduceIte, Nat.reduceEqDiff, reduceCtorEq, Nat.reduceAdd, Nat.reduceLeDiff, Nat.reduceMul, t0, t3, t4, t5, t6, t8, q2]
        · exact ⟨x, y, p, q, rfl, td, by omega, by omega⟩
        have hu5 : u < k0 := by have := of_decide_eq_true q2; omega
        have w2 := wrap64 ((u : Int) + 1) (by omega) (by omega)
        refine callT_now (f70 td.dr.1 (by omega) (by omega) hwi) fun r2 H2 ⟨b, e2, cs2⟩ => ?_
        subst e2
        have td2 := td.cs hid cs2
        simp only [go_sem, ↓reduceIte, Nat.reduceEqDiff, reduceCtorEq, Nat.reduceAdd, Nat.reduceLeDiff, Nat.reduceMul, t0, t3, t4, t5, t6, t8]
        cases b with
        | false =>
          simp only [go_sem, ↓reduceIte, Nat.reduceEqDiff, reduceCtorEq, Nat.reduceAdd, Nat.reduceLeDiff, Nat.reduceMul, t0, t3, t4, t5, t6, t8, w2]
          exact ⟨hu5, by simp, x, y, p, q, rfl, td2, by omega, by omega⟩
        | true =>
          obtain ⟨y', H3, a1, a2⟩ := td2.one2 (m := m) (u : Int) hid hw (by omega)
          simp only [go_sem, ↓reduceIte, Nat.reduceEqDiff, reduceCtorEq, Nat.reduceAdd, Nat.reduceLeDiff, Nat.reduceMul, t0, t3, t4, t5, t6, t8]
          rw [a1]
          rotate_left
          · rfl
          · rfl
          · rfl
          simp only [go_sem, ↓reduceIte, Nat.reduceEqDiff, reduceCtorEq, Nat.reduceAdd, Nat.reduceLeDiff, Nat.reduceMul, t0, t3, t4, t5, t6, t8, w2, a2.two.2.1.vc]
          exact ⟨hu5, by simp, x, y', p, _, rfl, a2, by omega, by simp; omega⟩
      · clear td t6 tp tq t0 t3 t4 t5
        rintro t ⟨t0, t3, t4, t5, x, y, p, q, t6, td, tp, tq⟩
        obtain ⟨v3, H3, a1, a2, a3⟩ := td.push (m := m) hid hw hnr (by omega)
        simp only [go_sem, ↓reduceIte, Nat.reduceEqDiff, reduceCtorEq, Nat.reduceAdd, Nat.reduceLeDiff, Nat.reduceMul, t0, t3, t4, t5, t6]
        rw [a1]
        rotate_left
        · rfl
        · rfl
        · rfl
        simp only [go_sem, ↓reduceIte, Nat.reduceEqDiff, reduceCtorEq, Nat.reduceAdd, Nat.reduceLeDiff, Nat.reduceMul, t0, t3, t4, t5, t6, w1]
        refine ⟨hik, by simp, a3, v3, _, rfl, a2, by simp; omega, fun z hz => ?_⟩
        rcases List.mem_append.1 hz with hz | hz
        · exact ks z hz
        · rw [List.mem_singleton] at hz
          subst hz
          have hge := td.ge
          exact ⟨by simp only; omega, by simp only; omega, td.two.2.2.1.mono hge, td.two.2.2.2.1.mono hge⟩
  · rintro s ⟨k_0, k4, kd, wv, l, k3, kg, kl, ks⟩
    simp only [go_sem, ↓reduceIte, Nat.reduceEqDiff, reduceCtorEq, Nat.reduceAdd, Nat.reduceLeDiff, Nat.reduceMul, k_0, k3, k4]
    cases q1 : decide ((k0 : Int) > 0) <;> simp only [go_sem, ↓reduceIte, Nat.reduceEqDiff, reduceCtorEq, Nat.reduceAdd, Nat.reduceLeDiff, Nat.reduceMul, k_0, k3, k4, q1]
    · exact ⟨l, kg, by omega, kd⟩
    refine callT_now (f70 kd.1 (by omega) (by omega) hwi) fun r2 H2 ⟨b, e2, cs2⟩ => ?_
    subst e2
    have d2 := kd.cs cs2
    have g2 := kg.keep (fun j hj => cs2.2.1 j (by omega)) cs2.2.2
    simp only [go_sem, ↓reduceIte, Nat.reduceEqDiff, reduceCtorEq, Nat.reduceAdd, Nat.reduceLeDiff, Nat.reduceMul, k_0, k3, k4]
    refine brT_join (fun t => t.ρ 0 = .val (.pointer (some ⟨id, 0, some 3⟩)) ∧ t.ρ 3 = .val wv ∧ t.ρ 4 = .val (.int .i64 k0) ∧ Dr H t.H (.pointer (some ⟨id, 0, some 3⟩)) id ∧ ∃ l', GL H.length t.H wv l' ∧ l'.length = k0 ∧ ∀ x ∈ l', x.1.1.length ≤ 200 ∧ x.1.2.length ≤ 200 ∧ OwnS H.length x.2.1 ∧ OwnS H.length x.2.2) (fun hb => ?_) (fun hb => ?_) ?_
    · obtain ⟨x, l2, rfl⟩ : ∃ x l2, l = x :: l2 := by
        cases l with
        | nil => have := of_decide_eq_true q1; simp at kl; omega
        | cons x l2 => exact ⟨x, l2, rfl⟩
      obtain ⟨id1, p1, o1, ho1, hp1, hid1, ⟨hR, hu, hs⟩, hia1, _⟩ := g2.sl.both (i := 0) (by simp)
      simp only [List.getElem_cons_zero] at hR hu hs
      have hiav : id1 ∈ idsOf wv := by rw [hid1]; simp
      have hia1 : ∀ (s : St) (a b : X), exv s.ρ a = some wv → exv s.ρ b = some (.int .i64 0) → iadrK s 2 a b = some (.val (.pointer (some ⟨id1, p1, some o1.length⟩)), s) := fun s a b ha hb => hia1 s a b ha (by rw [hb]; rfl)
      have h1 : o1[p1 + 1]? = some x.2.2 := by simpa using getElem?_of_take hR (j := 1) (by omega)
      have dl : decide (H.length ≤ id1) = true := decide_eq_true (own_ge g2.own id1 hiav)
      have dh : decide (id1 < H2.length) = true := decide_eq_true (g2.sl.ids id1 hiav)
      have dc : decide (id < H.length) = true := decide_eq_true hid
      have kx := ks x (by simp)
      refine go_draw3 H.length H2.length ?_
      simp only [go_sem, ↓reduceIte, Nat.reduceEqDiff, reduceCtorEq, Nat.reduceAdd, Nat.reduceLeDiff, Nat.reduceMul, k_0, k3, k4]
      rw [hia1]
      rotate_left
      · rfl
      · rfl
      simp only [go_sem, ↓reduceIte, Nat.reduceEqDiff, reduceCtorEq, Nat.reduceAdd, Nat.reduceLeDiff, Nat.reduceMul, k_0, k3, k4, ho1, h1, dl, dh, dc, Option.map_some, List.flatMap_cons, List.flatMap_nil, idsOf, List.all_cons, List.all_nil, Bool.true_or]
      refine callT_arg (by rfl) (fun m' h1 h2 h3 => f68 (n := 8) d2.1 (by omega) (by omega) (h2 id (by simp [idsOf]) hwi)) rfl (fun i hi => hw i (by have := d2.2.2; omega)) fun r3 H3 ⟨z, e3, hz0, hz1, cs3⟩ => ?_
      subst e3
      have d3 := d2.cs cs3
      have g3 := g2.keep (fun j hj => cs3.2.1 j (by omega)) cs3.2.2
      have hs3 := (g3.parts x (by simp)).2
      have far := g3.far
      have ndx := g3.nd
      rw [List.flatMap_cons] at ndx
      have ndx := (List.nodup_append.1 ndx).1
      obtain ⟨s', H5, a1, a2, a3, a4, a5, a6, a7⟩ := hs3.one (m := m) z kx.2.2.2 d3.2.2 hw (by omega)
      obtain ⟨ndu, nds, ndd⟩ := List.nodup_append.1 (show (idsOf x.2.1 ++ idsOf x.2.2).Nodup from ndx)
      have hu5 : SlI H5 x.2.1 x.1.1 := (g3.parts x (by simp)).1.aside (fun j hj hm => ndd j hj j hm rfl) a4
      have hdis : ∀ j ∈ idsOf x.2.1, j ∉ idsOf s' := fun j hj hm => by
        rcases a6 j hm with h2 | h2
        · exact ndd j hj j h2 rfl
        · have := (g3.parts x (by simp)).1.ids j hj
          omega
      obtain ⟨id2, p2, o2, ho2, ho2', hn2, hl2, hp2, hR2, hia2, g5⟩ := g3.put0 (y := ((x.1.1, x.1.2 ++ [z]), x.2.1, s')) d3.2.2 a5 (fun j hj hm => a4 j hj (fun h => hm (List.mem_append_right _ h))) hu5 a2
        (List.nodup_append.2 ⟨ndu, a2.ids_nd, fun a ha b hb e => by subst e; exact hdis a ha hb⟩) (fun j hj => by
          rcases List.mem_append.1 hj with hj | hj
          · exact .inl (List.mem_append_left _ hj)
          · rcases a6 j hj with h2 | h2
            · exact .inl (List.mem_append_right _ h2)
            · exact .inr h2)
      have hsp := spl_one (x := s') hR2 (j := 1) (by omega) hp2
      have wid2 : m.wr id2 = true := hw id2 hn2
      simp only [go_sem, ↓reduceIte, Nat.reduceEqDiff, reduceCtorEq, Nat.reduceAdd, Nat.reduceLeDiff, Nat.reduceMul, k_0, k3, k4]
      rw [a1]
      rotate_left
      · rfl
      · rfl
      · rfl
      simp only [go_sem, ↓reduceIte, Nat.reduceEqDiff, reduceCtorEq, Nat.reduceAdd, Nat.reduceLeDiff, Nat.reduceMul, k_0, k3, k4]
      rw [hia2]
      rotate_left
      · rfl
      · rfl
      simp only [go_sem, ↓reduceIte, Nat.reduceEqDiff, reduceCtorEq, Nat.reduceAdd, Nat.reduceLeDiff, Nat.reduceMul, k_0, k3, k4, ho2, wid2, hnr, a2.vc, hp2, Bool.false_eq_true, false_implies]
      rw [hsp]
      refine ⟨by generalize (decide (H2.length ≤ H3.length) && (Option.map (fun v => (idsOf v).all fun id => decide (id < H.length) || decide (H2.length ≤ id)) (some x.2.2) == some true)) = b0; cases b0 <;> rfl, (d3.app hid kx.2.2.2 a4 a5).set hid hn2, _, g5, kl, fun q hq => ?_⟩
      rcases List.mem_cons.1 hq with rfl | hq
      · exact ⟨by simp only; omega, by simp only [List.length_append, List.length_singleton]; omega, kx.2.2.1, a3⟩
      · have := ks q (List.mem_cons_of_mem _ hq)
        exact ⟨by omega, by omega, this.2.2⟩
    · simp only [go_sem, ↓reduceIte, Nat.reduceEqDiff, reduceCtorEq, Nat.reduceAdd, Nat.reduceLeDiff, Nat.reduceMul, k_0, k3, k4]
      exact ⟨d2, l, g2, kl, fun x hx => by have := ks x hx; exact ⟨by omega, by omega, this.2.2⟩⟩
    · clear k_0 k3 k4 kd kg kl ks d2 g2
      rintro t ⟨k_0, k3, k4, kd, l, kg, kl, ks⟩
      simp only [go_sem, ↓reduceIte, Nat.reduceEqDiff, reduceCtorEq, Nat.reduceAdd, Nat.reduceLeDiff, Nat.reduceMul, k_0, k3, k4, q1]
      refine callT_now (f70 kd.1 (by omega) (by omega) hwi) fun r2 H2 ⟨b, e2, cs2⟩ => ?_
      subst e2
      have d2 := kd.cs cs2
      have g2 := kg.keep (fun j hj => cs2.2.1 j (by omega)) cs2.2.2
      simp only [go_sem, ↓reduceIte, Nat.reduceEqDiff, reduceCtorEq, Nat.reduceAdd, Nat.reduceLeDiff, Nat.reduceMul, k_0, k3, k4]
      refine brT_join (fun t => t.ρ 3 = .val wv ∧ Dr H t.H (.pointer (some ⟨id, 0, some 3⟩)) id ∧ ∃ l', GL H.length t.H wv l' ∧ l'.length = k0) (fun hb => ?_) (fun hb => ?_) ?_
      · obtain ⟨x, l2, rfl⟩ : ∃ x l2, l = x :: l2 := by
          cases l with
          | nil => have := of_decide_eq_true q1; simp at kl; omega
          | cons x l2 => exact ⟨x, l2, rfl⟩
        obtain ⟨id1, p1, o1, ho1, hp1, hid1, ⟨hR, hu, hs⟩, hia1, _⟩ := g2.sl.both (i := 0) (by simp)
        simp only [List.getElem_cons_zero] at hR hu hs
        have hiav : id1 ∈ idsOf wv := by rw [hid1]; simp
        have hia1 : ∀ (s : St) (a b : X), exv s.ρ a = some wv → exv s.ρ b = some (.int .i64 0) → iadrK s 2 a b = some (.val (.pointer (some ⟨id1, p1, some o1.length⟩)), s) := fun s a b ha hb => hia1 s a b ha (by rw [hb]; rfl)
        have h1 : o1[p1]? = some x.2.1 := by simpa using getElem?_of_take hR (j := 0) (by omega)
        have dl : decide (H.length ≤ id1) = true := decide_eq_true (own_ge g2.own id1 hiav)
        have dh : decide (id1 < H2.length) = true := decide_eq_true (g2.sl.ids id1 hiav)
        have dc : decide (id < H.length) = true := decide_eq_true hid
        have kx := ks x (by simp)
        have pn : H2 <+: H2 ++ [[.int .i64 30, .int .i64 31, .int .i64 0]] := List.prefix_append _ _
        have sn : SlI (H2 ++ [[.int .i64 30, .int .i64 31, .int .i64 0]]) (.slice (some ⟨H2.length, 0, some 1⟩) 3 3) [30, 31, 0] := .inr ⟨H2.length, 0, 3, [.int .i64 30, .int .i64 31, .int .i64 0], rfl, by simp, by simp, by simp, by simp, fun i a hi => by
          match i, hi with
          | 0, hi => simp at hi; subst hi; rfl
          | 1, hi => simp at hi; subst hi; rfl
          | 2, hi => simp at hi; subst hi; rfl
          | i + 3, hi => simp at hi⟩
        have dn := d2.pre hid pn
        have gn := g2.pre pn
        refine go_draw3 H.length H2.length ?_
        simp only [go_sem, ↓reduceIte, Nat.reduceEqDiff, reduceCtorEq, Nat.reduceAdd, Nat.reduceLeDiff, Nat.reduceMul, k_0, k3, k4]
        rw [hia1]
        rotate_left
        · rfl
        · rfl
        simp only [go_sem, ↓reduceIte, Nat.reduceEqDiff, reduceCtorEq, Nat.reduceAdd, Nat.reduceLeDiff, Nat.reduceMul, k_0, k3, k4, ho1, h1, dl, dh, dc, Option.map_some, List.flatMap_cons, List.flatMap_nil, idsOf, List.all_cons, List.all_nil, Bool.true_or, Bool.or_true, fillL, List.length_append, Nat.le_add_right]
        refine callT_arg (by rfl) (fun m' h1 h2 h3 => f94 (l := [30, 31, 0]) dn.1 (h2 id (by simp [idsOf]) hwi) sn (by simp) (by simp) (by have := d2.2.2; simp [idsOf]; omega)) rfl (fun i hi => hw i (by have := dn.2.2; omega)) fun r3 H3 ⟨z, e3, cs3⟩ => ?_
        subst e3
        have d3 := dn.cs cs3
        have g3 := gn.keep (fun j hj => cs3.2.1 j (by omega)) cs3.2.2
        have hs3 := (g3.parts x (by simp)).1
        have ndx := g3.nd
        rw [List.flatMap_cons] at ndx
        have ndx := (List.nodup_append.1 ndx).1
        obtain ⟨u', H5, a1, a2, a3, a4, a5, a6, a7⟩ := hs3.one (m := m) z kx.2.2.1 d3.2.2 hw (by omega)
        obtain ⟨ndu, nds, ndd⟩ := List.nodup_append.1 (show (idsOf x.2.1 ++ idsOf x.2.2).Nodup from ndx)
        have hu5 : SlI H5 x.2.2 x.1.2 := (g3.parts x (by simp)).2.aside (fun j hj hm => ndd j hm j hj rfl) a4
        have hdis : ∀ j ∈ idsOf u', j ∉ idsOf x.2.2 := fun j hj hm => by
          rcases a6 j hj with h2 | h2
          · exact ndd j h2 j hm rfl
          · have := (g3.parts x (by simp)).2.ids j hm
            omega
        obtain ⟨id2, p2, o2, ho2, ho2', hn2, hl2, hp2, hR2, hia2, g5⟩ := g3.put0 (y := ((x.1.1 ++ [z], x.1.2), u', x.2.2)) d3.2.2 a5 (fun j hj hm => a4 j hj (fun h => hm (List.mem_append_left _ h))) a2 hu5
          (List.nodup_append.2 ⟨a2.ids_nd, nds, fun a ha b hb e => by subst e; exact hdis a ha hb⟩) (fun j hj => by
            rcases List.mem_append.1 hj with hj | hj
            · rcases a6 j hj with h2 | h2
              · exact .inl (List.mem_append_left _ h2)
              · exact .inr h2
            · exact .inl (List.mem_append_right _ hj))
        have hsp : spl o2 p2 [u'] = _ := spl_one (x := u') hR2 (j := 0) (by omega) hp2
        have wid2 : m.wr id2 = true := hw id2 hn2
        have hp3 : p2 + 1 ≤ o2.length := by omega
        simp only [go_sem, ↓reduceIte, Nat.reduceEqDiff, reduceCtorEq, Nat.reduceAdd, Nat.reduceLeDiff, Nat.reduceMul, k_0, k3, k4]
        rw [a1]
        rotate_left
        · rfl
        · rfl
        · rfl
        simp only [go_sem, ↓reduceIte, Nat.reduceEqDiff, reduceCtorEq, Nat.reduceAdd, Nat.reduceLeDiff, Nat.reduceMul, k_0, k3, k4]
        rw [hia2]
        rotate_left
        · rfl
        · rfl
        simp only [go_sem, ↓reduceIte, Nat.reduceEqDiff, reduceCtorEq, Nat.reduceAdd, Nat.reduceLeDiff, Nat.reduceMul, k_0, k3, k4, ho2, wid2, hnr, a2.vc, hp3, Bool.false_eq_true, false_implies]
        rw [hsp]
        refine ⟨by generalize (decide (H2.length ≤ H3.length) && (Option.map (fun v => (idsOf v).all fun id => decide (id < H.length) || decide (H2.length ≤ id)) (some x.2.1) == some true)) = b0; cases b0 <;> rfl, (d3.app hid kx.2.2.1 a4 a5).set hid hn2, _, g5, kl⟩
      · simp only [go_sem, ↓reduceIte, Nat.reduceEqDiff, reduceCtorEq, Nat.reduceAdd, Nat.reduceLeDiff, Nat.reduceMul, k_0, k3, k4]
        exact ⟨d2, l, g2, kl⟩
      · clear k_0 k3 k4 kd kg kl ks d2 g2
        rintro t ⟨k3, kd, l, kg, kl⟩
        simp only [go_sem, ↓reduceIte, Nat.reduceEqDiff, reduceCtorEq, Nat.reduceAdd, Nat.reduceLeDiff, Nat.reduceMul, k3]
        exact ⟨l, kg, by omega, kd⟩
theorem f53 {m : Md} {H : Hp} {v : Value} {bl : List Int} (hv : SlU H v bl) (hw : Wr m H) (hnr : m.nr = false) : Fun EE m 53 [v] H fun r H' => ∃ (w : Value) (l : List Group) (a : Int), r = .tuple #[w, .int .i64 a] ∧ 0 ≤ a ∧ a < 6 ∧ H <+: H' ∧ SlG H' w l ∧ l.length ≤ 6 := by
  refine fun_f rfl rfl k53 (by simp [c53]) ?_
  simp only [go_sem, ↓reduceIte, Nat.reduceEqDiff, reduceCtorEq, Nat.reduceAdd, Nat.reduceLeDiff, Nat.reduceMul, c53]
  refine callT_now (f67 hv) fun r1 H1 ⟨cu, p1, n1⟩ => ?_
  simp only [go_sem, ↓reduceIte, Nat.reduceEqDiff, reduceCtorEq, Nat.reduceAdd, Nat.reduceLeDiff, Nat.reduceMul]
  refine callT_now (f68 cu (by omega) (by omega) (hw _ (Nat.le_refl _))) fun r2 H2 ⟨a, e, h0, h1, cs⟩ => ?_
  subst e
  have n2 : H2.length = H1.length := cs.2.2
  have n1 : H1.length = H.length + 1 := n1
  simp only [go_sem, ↓reduceIte, Nat.reduceEqDiff, reduceCtorEq, Nat.reduceAdd, Nat.reduceLeDiff, Nat.reduceMul]
  refine callT_now (f83 cs.1 (hw _ (Nat.le_refl _)) (fun i (hi : H2.length ≤ i) => hw i (by omega)) hnr) fun r3 H3 ⟨l, g, hl, dr⟩ => ?_
  have g : GL H2.length H3 r3 l := g
  have dr : Dr H2 H3 r1 H.length := dr
  have n3 : H2.length ≤ H3.length := dr.2.2
  have n1 : H1.length = H.length + 1 := n1
  simp only [go_sem, ↓reduceIte, Nat.reduceEqDiff, reduceCtorEq, Nat.reduceAdd, Nat.reduceLeDiff, Nat.reduceMul, g.sl.vc]
  refine ⟨r3, l.map (·.1), a, rfl, h0, h1, ?_, g.g, by simpa using hl⟩
  exact pre_keep p1 (fun j hj => by rw [dr.2.1 j (by omega) (by omega), cs.2.1 j (by omega)]) (by omega)
theorem f54 {m : Md} {H : Hp} {v : Value} {bl : List Int} (hv : SlU H v bl) (hw : Wr m H) (hnr : m.nr = false) : Fun EE m 54 [v] H fun r H' => ∃ (w1 w2 : Value) (l1 l2 : List Group), r = .tuple #[w1, w2] ∧ H <+: H' ∧ SlG H' w1 l1 ∧ SlG H' w2 l2 ∧ l1.length ≤ 6 ∧ l2.length ≤ 6 := by
  refine fun_f rfl rfl k54 (by simp [c54]) ?_
  simp only [go_sem, ↓reduceIte, Nat.reduceEqDiff, reduceCtorEq, Nat.reduceAdd, Nat.reduceLeDiff, Nat.reduceMul, c54]
  refine callT_now (f67 hv) fun r1 H1 ⟨cu, p1, n1⟩ => ?_
  have n1 : H1.length = H.length + 1 := n1
  simp only [go_sem, ↓reduceIte, Nat.reduceEqDiff, reduceCtorEq, Nat.reduceAdd, Nat.reduceLeDiff, Nat.reduceMul]
  refine callT_now (f83 cu (hw _ (Nat.le_refl _)) (fun i (hi : H1.length ≤ i) => hw i (by omega)) hnr) fun r2 H2 ⟨l1, g1, hl1, dr1⟩ => ?_
  have g1 : GL H1.length H2 r2 l1 := g1
  have dr1 : Dr H1 H2 r1 H.length := dr1
  have n2 : H1.length ≤ H2.length := dr1.2.2
  simp only [go_sem, ↓reduceIte, Nat.reduceEqDiff, reduceCtorEq, Nat.reduceAdd, Nat.reduceLeDiff, Nat.reduceMul]
  refine callT_now (f83 dr1.1 (hw _ (Nat.le_refl _)) (fun i (hi : H2.length ≤ i) => hw i (by omega)) hnr) fun r3 H3 ⟨l2, g2, hl2, dr2⟩ => ?_
  have g2 : GL H2.length H3 r3 l2 := g2
  have dr2 : Dr H2 H3 r1 H.length := dr2
  have n3 : H2.length ≤ H3.length := dr2.2.2
  have g1' := g1.still (fun j hj => dr2.2.1 j (by
    rcases List.mem_append.1 hj with hj | hj
    · exact g1.sl.ids j hj
    · exact (g1.far j hj).2.2) (by
    rcases List.mem_append.1 hj with hj | hj
    · have := own_ge g1.own j hj; omega
    · have := (g1.far j hj).2.1; omega)) n3
  simp only [go_sem, ↓reduceIte, Nat.reduceEqDiff, reduceCtorEq, Nat.reduceAdd, Nat.reduceLeDiff, Nat.reduceMul, g1'.sl.vc, g2.sl.vc]
  refine ⟨r2, r3, l1.map (·.1), l2.map (·.1), rfl, ?_, g1'.g, g2.g, by simpa using hl1, by simpa using hl2⟩
  exact pre_keep p1 (fun j hj => by rw [dr2.2.1 j (by omega) (by omega), dr1.2.1 j (by omega) (by omega)]) (by omega)
end Go.Proofs.Ytdplmjlbkaipiaa.Ev

/- What is put together, plain: right, and nobody is lost. -/
namespace Go.Proofs.Ytdplmjlbkaipiaa.Ev
set_option linter.all false
open Go
set_option maxRecDepth 4000

theorem mem_users {g : List Group} {i : Nat} {u : Int} (hok : groupsOk g = true) (hi : i < g.length) : u ∈ usersL g i ↔ UserP g i u := by
  unfold usersL
  rw [if_pos ⟨hok, by omega, by omega⟩, selN_mem, userP_t]
  refine ⟨fun h => h.2.2, fun h => ?_⟩
  obtain ⟨k, x, h1, h2, h3⟩ := h
  have h4 := ((groupsOk_in hok).2 k x h1).1.1 u h3
  unfold inT at h4
  exact ⟨h4.1, by omega, k, x, h1, h2, h3⟩
theorem mem_gof {g : List Group} {i : Nat} {u : Int} (hi : i < g.length) : (i : Int) ∈ gofL g u ↔ u ∈ usersL g i := by
  unfold gofL
  rw [selN_mem, gofP_t]
  exact ⟨fun h => h.2.2, fun h => ⟨by omega, by omega, h⟩⟩
theorem user_sub {g : List Group} {i : Nat} {x : Group} {s u : Int} (hg : g[i]? = some x) (hs : s ∈ x.2) (h : UserP g s u) : UserP g i u := by
  obtain ⟨k, y, h1, h2, h3⟩ := h
  refine ⟨k, y, h1, .inr ?_, h3⟩
  obtain ⟨n, hn⟩ := rn_bel.2 h2
  exact ⟨n, s, (PG.at hg s).2 hs, hn⟩
theorem Rn.imp {P P' : Hop → Prop} (h : ∀ x, P x → P' x) : ∀ {n : Nat} {a b : Int}, Rn P n a b → Rn P' n a b
  | 0, _, _, e => e
  | n + 1, _, _, e => by
    rcases e with e | ⟨c, e, hp⟩
    · exact .inl (Rn.imp h e)
    · exact .inr ⟨c, Rn.imp h e, h _ hp⟩
theorem merge_at {a b : List Group} (h : groupsOk a = true ∧ groupsOk b = true) {i : Nat} (hi : i < max a.length b.length) : (mergeL a b)[i]? = some (mgG a b i) := by
  rw [mergeL_yes h, List.getElem?_map, List.getElem?_range hi]
  rfl
theorem merge_len {a b : List Group} (h : groupsOk a = true ∧ groupsOk b = true) : (mergeL a b).length = max a.length b.length := by
  rw [mergeL_yes h, List.length_map, List.length_range]
theorem asc_rise {l : List Int} (h : Asc l) : RiseP l := fun i a b ha hb => by
  obtain ⟨hi, rfl⟩ := List.getElem?_eq_some_iff.1 ha
  obtain ⟨hj, rfl⟩ := List.getElem?_eq_some_iff.1 hb
  exact List.pairwise_iff_getElem.1 h i (i + 1) hi hj (by omega)
theorem uOf_in {l : List Group} (h : groupsOk l = true) (i : Nat) : (∀ x ∈ uOf l i, inT 30 x) ∧ ∀ x ∈ sOf l i, inT (l.length - 1) x := by
  by_cases hi : i < l.length
  · rw [(uOf_at hi).1, (uOf_at hi).2]
    have := (groupsOk_in h).2 i _ (List.getElem?_eq_getElem hi)
    exact ⟨this.1.1, this.2.1⟩
  · rw [(uOf_no hi).1, (uOf_no hi).2]
    exact ⟨by simp, by simp⟩
theorem merge_ok {a b : List Group} (h : groupsOk a = true ∧ groupsOk b = true) : groupsOk (mergeL a b) = true := by
  have ha := (groupsOk_in h.1).1
  have hb := (groupsOk_in h.2).1
  have hl := merge_len h
  suffices hh : (mergeL a b).length ≤ 8 ∧ ∀ i, GrIn (mergeL a b) i by simpa [groupsOk] using hh
  refine ⟨by omega, fun i x hx => ?_⟩
  have hi : i < max a.length b.length := by have := (List.getElem?_eq_some_iff.1 hx).1; omega
  rw [merge_at h hi] at hx
  cases hx
  have ia := uOf_in h.1 i
  have ib := uOf_in h.2 i
  refine ⟨⟨fun x hx => ?_, asc_rise (rsn_asc _)⟩, fun x hx => ?_, asc_rise (rsn_asc _)⟩
  · have hx : x ∈ rsn (uOf a i ++ uOf b i) := hx
    rw [rsn_mem, List.mem_append] at hx
    rcases hx with hx | hx
    · exact ia.1 x hx
    · exact ib.1 x hx
  · have hx : x ∈ rsn (sOf a i ++ sOf b i) := hx
    rw [rsn_mem, List.mem_append] at hx
    unfold inT
    rcases hx with hx | hx
    · have := ia.2 x hx; unfold inT at this; omega
    · have := ib.2 x hx; unfold inT at this; omega
theorem merge_user {a b : List Group} (h : groupsOk a = true ∧ groupsOk b = true) {i : Nat} {u : Int} (hu : UserP a i u) : UserP (mergeL a b) i u := by
  have up : ∀ {k : Nat} {x : Group}, a[k]? = some x → k < max a.length b.length ∧ (∀ y ∈ x.1, y ∈ (mgG a b k).1) ∧ ∀ y ∈ x.2, y ∈ (mgG a b k).2 := fun {k x} hx => by
    obtain ⟨hk, rfl⟩ := List.getElem?_eq_some_iff.1 hx
    refine ⟨by omega, fun y hy => ?_, fun y hy => ?_⟩
    · show y ∈ rsn _
      rw [rsn_mem, List.mem_append, (uOf_at hk).1]
      exact .inl hy
    · show y ∈ rsn _
      rw [rsn_mem, List.mem_append, (uOf_at hk).2]
      exact .inl hy
  have pg : ∀ hp, PG a hp → PG (mergeL a b) hp := fun hp ⟨k, x, h1, h2, h3⟩ => ⟨k, mgG a b k, h1, merge_at h (up h2).1, (up h2).2.2 _ h3⟩
  obtain ⟨k, x, h1, h2, h3⟩ := hu
  refine ⟨k, mgG a b k, merge_at h (up h1).1, ?_, (up h1).2.1 _ h3⟩
  rcases h2 with h2 | ⟨n, y, hp, hr⟩
  · exact .inl h2
  · exact .inr ⟨n, y, pg _ hp, hr.imp pg⟩
end Go.Proofs.Ytdplmjlbkaipiaa.Ev

/- The law Groups. -/
namespace Go.Proofs.Ytdplmjlbkaipiaa.Ev
set_option linter.all false
open Go
set_option maxRecDepth 4000

theorem law14 {m : Md} {H : Hp} {v : Value} {bl : List Int} (hv : SlU H v bl) (hw : Wr m H) (hnr : m.nr = false) : Fun EE m 14 [v] H fun r _ => r = .bool true := by
  refine fun_f rfl rfl k14 (by simp [c14]) ?_
  simp only [go_sem, ↓reduceIte, Nat.reduceEqDiff, reduceCtorEq, Nat.reduceAdd, Nat.reduceLeDiff, Nat.reduceMul, c14]
  refine callT_now (f33 hv) fun r0 H0 ⟨e0, eH0⟩ => ?_
  have eH0 : H = H0 := eH0.symm
  subst e0; subst eH0
  simp only [go_sem, ↓reduceIte, Nat.reduceEqDiff, reduceCtorEq, Nat.reduceAdd, Nat.reduceLeDiff, Nat.reduceMul]
  refine brT.intro (fun q0 => ?_) (fun q0 => ?_) <;> simp only [go_sem, ↓reduceIte, Nat.reduceEqDiff, reduceCtorEq, Nat.reduceAdd, Nat.reduceLeDiff, Nat.reduceMul]
  refine callT_now (f53 hv hw hnr) fun r1 H1 ⟨w, g, u, e1, u0, u1, p1, sg, gl⟩ => ?_
  subst e1
  have p1 : H <+: H1 := p1
  have w1 := hw.pre p1
  simp only [go_sem, ↓reduceIte, Nat.reduceEqDiff, reduceCtorEq, Nat.reduceAdd, Nat.reduceLeDiff, Nat.reduceMul, List.getElem?_toArray, ofV]
  refine callT_to (fun m' h => f49 (u := u) sg (by omega) h) rfl w1 fun lv H2 ⟨p2, sl, ol⟩ => ?_
  have w2 := w1.pre p2
  have g2 := sg.preG p2
  simp only [go_sem, ↓reduceIte, Nat.reduceEqDiff, reduceCtorEq, Nat.reduceAdd, Nat.reduceLeDiff, Nat.reduceMul]
  refine callT_to (fun m' h => f48 (u := u) g2 (by omega) h) rfl w2 fun r3 H3 ⟨p3, s3, o3⟩ => ?_
  have w3 := w2.pre p3
  have g3 := g2.preG p3
  have a35 := fun {m draw s d ts Q} => callT_at (m := m) (draw := draw) (s := s) (d := d) (ts := ts) (Q := Q) (f35 (sl.pre p3) s3)
  have dg : decide (gofL g u = gofL g u) = true := decide_eq_true rfl
  simp only [go_sem, ↓reduceIte, Nat.reduceEqDiff, reduceCtorEq, Nat.reduceAdd, Nat.reduceLeDiff, Nat.reduceMul, a35, w3, dg]
  refine callT_to (fun m' h => f44 g3 h) rfl w3 fun r4 H4 ⟨p4, s4, o4⟩ => ?_
  have w4 := w3.pre p4
  have g4 := g3.preG p4
  simp only [go_sem, ↓reduceIte, Nat.reduceEqDiff, reduceCtorEq, Nat.reduceAdd, Nat.reduceLeDiff, Nat.reduceMul]
  refine callT_to (fun m' h => f43 g4 (by omega) h) rfl w4 fun r5 H5 ⟨p5, s5, o5⟩ => ?_
  have w5 := w4.pre p5
  have g5 := g4.preG p5
  have b35 := fun {m draw s d ts Q} => callT_at (m := m) (draw := draw) (s := s) (d := d) (ts := ts) (Q := Q) (f35 (s4.pre p5) s5)
  have dl : decide (loopsL g = loopsL g) = true := decide_eq_true rfl
  have l5 := sl.pre (p3.trans (p4.trans p5))
  have v5 := hv.pre (p1.trans (p2.trans (p3.trans (p4.trans p5))))
  simp only [go_sem, ↓reduceIte, Nat.reduceEqDiff, reduceCtorEq, Nat.reduceAdd, Nat.reduceLeDiff, Nat.reduceMul, b35, w5, dl]
  refine go_for g.length (fun i s => H5 <+: s.H ∧ s.ρ 0 = .val v ∧ s.ρ 2 = .val (.bool false) ∧ s.ρ 3 = .val w ∧ s.ρ 4 = .val (.int .i64 u) ∧ s.ρ 5 = .val lv ∧ s.ρ 6 = .val (.int .i64 i))
    (fun s => H5 <+: s.H ∧ s.ρ 0 = .val v ∧ s.ρ 2 = .val (.bool false)) ?_ ?_ ?_
  · exact ⟨List.prefix_refl _, by simp [upd, ini], by simp [upd, ini], by simp [upd], by simp [upd], by simp [upd], by simp [upd]⟩
  · rintro i s hi ⟨kH, k0, k2, k3, k4, k5, k6⟩
    have kg := g5.preG kH
    have kl := l5.pre kH
    have kw := w5.pre kH
    have a39 := fun {m draw s d ts Q} => callT_at (m := m) (draw := draw) (s := s) (d := d) (ts := ts) (Q := Q) (f39 kg)
    simp only [go_sem, ↓reduceIte, Nat.reduceEqDiff, reduceCtorEq, Nat.reduceAdd, Nat.reduceLeDiff, Nat.reduceMul, k0, k2, k3, k4, k5, k6, kg.len]
    cases q1 : decide ((i : Int) < (g.length : Int)) <;> simp only [go_sem, ↓reduceIte, Nat.reduceEqDiff, reduceCtorEq, Nat.reduceAdd, Nat.reduceLeDiff, Nat.reduceMul, k0, k2, k3, k4, k5, k6, q1, a39, kw]
    · exact kH
    cases hok : groupsOk g <;> simp only [go_sem, ↓reduceIte, Nat.reduceEqDiff, reduceCtorEq, Nat.reduceAdd, Nat.reduceLeDiff, Nat.reduceMul, k0, k2, k3, k4, k5, k6, hok]
    · exact kH
    have hil : i < g.length := by have := of_decide_eq_true q1; omega
    have w1' := wrap64 ((i : Int) + 1) (by omega) (by omega)
    refine callT_to (fun m' h => f47 (i := (i : Int)) kg (by omega) h) rfl kw fun xv H6 ⟨p6, s6, o6⟩ => ?_
    have w6 := kw.pre p6
    have a36 := fun {m draw s d ts Q} => callT_at (m := m) (draw := draw) (s := s) (d := d) (ts := ts) (Q := Q) (f36 (h := u) s6)
    have b36 := fun {m draw s d ts Q} => callT_at (m := m) (draw := draw) (s := s) (d := d) (ts := ts) (Q := Q) (f36 (h := (i : Int)) (kl.pre p6))
    have hsame : decide (u ∈ usersL g i) = decide ((i : Int) ∈ gofL g u) := by
      rw [Bool.eq_iff_iff, decide_eq_true_eq, decide_eq_true_eq]
      exact (mem_gof hil).symm
    have hB : decide (decide ((i : Int) ∈ gofL g u) = decide ((i : Int) ∈ gofL g u)) = true := by simp
    rw [hsame] at a36
    simp only [go_sem, ↓reduceIte, Nat.reduceEqDiff, reduceCtorEq, Nat.reduceAdd, Nat.reduceLeDiff, Nat.reduceMul, k0, k2, k3, k4, k5, k6, a36, b36, w6, beqK, hB]
    refine callT_to (fun m' h => f46 (i := (i : Int)) (kg.preG p6) h) rfl w6 fun r7 H7 ⟨p7, s7, o7⟩ => ?_
    have w7 := w6.pre p7
    have x7 := s6.pre p7
    have g7 := (kg.preG p6).preG p7
    have c35 := fun {m draw s d ts Q} => callT_at (m := m) (draw := draw) (s := s) (d := d) (ts := ts) (Q := Q) (f35 x7 s7)
    have du : decide (usersL g i = usersL g i) = true := decide_eq_true rfl
    obtain ⟨id, p, o, gu, gs, ho, e0, e1, hr, hp, hgu, hgs, hia⟩ := g7.group (List.getElem?_eq_getElem hil)
    have hgr := (groupsOk_in hok).2 i _ (List.getElem?_eq_getElem hil)
    have hroom := hgu.room
    have hroom2 := hgs.room
    simp only [go_sem, ↓reduceIte, Nat.reduceEqDiff, reduceCtorEq, Nat.reduceAdd, Nat.reduceLeDiff, Nat.reduceMul, k0, k2, k3, k4, k5, k6, c35, w7, du]
    refine go_for g[i].1.length (fun k t => t.H = H7 ∧ t.ρ 0 = .val v ∧ t.ρ 2 = .val (.bool false) ∧ t.ρ 3 = .val w ∧ t.ρ 4 = .val (.int .i64 u) ∧ t.ρ 5 = .val lv ∧ t.ρ 6 = .val (.int .i64 i) ∧ t.ρ 7 = .val xv ∧ t.ρ 8 = .val (.int .i64 k))
      (fun t => t.H = H7 ∧ t.ρ 0 = .val v ∧ t.ρ 2 = .val (.bool false) ∧ t.ρ 3 = .val w ∧ t.ρ 4 = .val (.int .i64 u) ∧ t.ρ 5 = .val lv ∧ t.ρ 6 = .val (.int .i64 i) ∧ t.ρ 7 = .val xv) ?_ ?_ ?_
    · exact ⟨rfl, by simp [upd, k0], by simp [upd, k2], by simp [upd, k3], by simp [upd, k4], by simp [upd, k5], by simp [upd, k6], by simp [upd], by simp [upd]⟩
    · rintro k t hk ⟨tH, t0, t2, t3, t4, t5, t6, t7, t8⟩
      simp only [go_sem, ↓reduceIte, Nat.reduceEqDiff, reduceCtorEq, Nat.reduceAdd, Nat.reduceLeDiff, Nat.reduceMul, t0, t2, t3, t4, t5, t6, t7, t8, tH, hia, ho, e0, hgu.len]
      cases q2 : decide ((k : Int) < (g[i].1.length : Int)) <;> simp only [go_sem, ↓reduceIte, Nat.reduceEqDiff, reduceCtorEq, Nat.reduceAdd, Nat.reduceLeDiff, Nat.reduceMul, t0, t2, t3, t4, t5, t6, t7, t8, q2]
      have hkl : k < g[i].1.length := by have := of_decide_eq_true q2; omega
      have w2' := wrap64 ((k : Int) + 1) (by omega) (by omega)
      obtain ⟨id2, p2, o2, ho2, hr2, hia2⟩ := hgu.int (List.getElem?_eq_getElem hkl)
      have hin : g[i].1[k] ∈ usersL g i := (mem_users hok hil).2 ⟨i, g[i], List.getElem?_eq_getElem hil, .inl rfl, List.getElem_mem hkl⟩
      have c36 := fun {m draw s d ts Q} => callT_at (m := m) (draw := draw) (s := s) (d := d) (ts := ts) (Q := Q) (f36 (h := g[i].1[k]) x7)
      have dm : decide (g[i].1[k] ∈ usersL g i) = true := decide_eq_true hin
      simp only [go_sem, ↓reduceIte, Nat.reduceEqDiff, reduceCtorEq, Nat.reduceAdd, Nat.reduceLeDiff, Nat.reduceMul, t0, t2, t3, t4, t5, t6, t7, t8, tH, hia, ho, e0, hia2, ho2, hr2, c36, w7, dm, w2']
      exact ⟨hkl, by simp⟩
    · rintro t ⟨tH, t0, t2, t3, t4, t5, t6, t7⟩
      simp only [go_sem, ↓reduceIte, Nat.reduceEqDiff, reduceCtorEq, Nat.reduceAdd, Nat.reduceLeDiff, Nat.reduceMul, t0, t2, t3, t4, t5, t6, t7]
      refine go_for g[i].2.length (fun k t => H7 <+: t.H ∧ t.ρ 0 = .val v ∧ t.ρ 2 = .val (.bool false) ∧ t.ρ 3 = .val w ∧ t.ρ 4 = .val (.int .i64 u) ∧ t.ρ 5 = .val lv ∧ t.ρ 6 = .val (.int .i64 i) ∧ t.ρ 7 = .val xv ∧ t.ρ 9 = .val (.int .i64 k))
        (fun t => H7 <+: t.H ∧ t.ρ 0 = .val v ∧ t.ρ 2 = .val (.bool false) ∧ t.ρ 3 = .val w ∧ t.ρ 4 = .val (.int .i64 u) ∧ t.ρ 5 = .val lv ∧ t.ρ 6 = .val (.int .i64 i)) ?_ ?_ ?_
      · exact ⟨by rw [tH]; exact List.prefix_refl _, by simp [upd, t0], by simp [upd, t2], by simp [upd, t3], by simp [upd, t4], by simp [upd, t5], by simp [upd, t6], by simp [upd, t7], by simp [upd]⟩
      · clear tH t0 t2 t3 t4 t5 t6 t7
        rintro k t hk ⟨tH, t0, t2, t3, t4, t5, t6, t7, t9⟩
        have gt := g7.preG tH
        have wt := w7.pre tH
        obtain ⟨id, p, o, gu, gs, ho, e0, e1, hr, hp, hgu, hgs, hia⟩ := gt.group (List.getElem?_eq_getElem hil)
        simp only [go_sem, ↓reduceIte, Nat.reduceEqDiff, reduceCtorEq, Nat.reduceAdd, Nat.reduceLeDiff, Nat.reduceMul, t0, t2, t3, t4, t5, t6, t7, t9, hia, ho, e1, hgs.len]
        cases q2 : decide ((k : Int) < (g[i].2.length : Int)) <;> simp only [go_sem, ↓reduceIte, Nat.reduceEqDiff, reduceCtorEq, Nat.reduceAdd, Nat.reduceLeDiff, Nat.reduceMul, t0, t2, t3, t4, t5, t6, t7, t9, q2]
        · exact tH
        have hkl : k < g[i].2.length := by have := of_decide_eq_true q2; omega
        have w2' := wrap64 ((k : Int) + 1) (by omega) (by omega)
        obtain ⟨id2, p2, o2, ho2, hr2, hia2⟩ := hgs.int (List.getElem?_eq_getElem hkl)
        have hpg : PG g ((i : Int), g[i].2[k]) := (PG.at (List.getElem?_eq_getElem hil) _).2 (List.getElem_mem hkl)
        have hrange := (PG.in hok hpg).2
        simp only at hrange
        obtain ⟨S, hS⟩ : ∃ S : Nat, g[i].2[k] = (S : Int) := ⟨g[i].2[k].toNat, by omega⟩
        have hSl : S < g.length := by omega
        rw [hS] at hr2
        simp only [go_sem, ↓reduceIte, Nat.reduceEqDiff, reduceCtorEq, Nat.reduceAdd, Nat.reduceLeDiff, Nat.reduceMul, t0, t2, t3, t4, t5, t6, t7, t9, hia, ho, e1, hia2, ho2, hr2]
        refine callT_to (fun m' h => f47 (i := (S : Int)) gt (by omega) h) rfl wt fun yv H8 ⟨p8, s8, o8⟩ => ?_
        have w8 := wt.pre p8
        have x8 := (x7.pre tH).pre p8
        have hroom3 := s8.room
        simp only [go_sem, ↓reduceIte, Nat.reduceEqDiff, reduceCtorEq, Nat.reduceAdd, Nat.reduceLeDiff, Nat.reduceMul, t0, t2, t3, t4, t5, t6, t7, t9]
        refine go_for (usersL g S).length (fun j t' => t'.H = H8 ∧ t'.ρ 0 = .val v ∧ t'.ρ 2 = .val (.bool false) ∧ t'.ρ 3 = .val w ∧ t'.ρ 4 = .val (.int .i64 u) ∧ t'.ρ 5 = .val lv ∧ t'.ρ 6 = .val (.int .i64 i) ∧ t'.ρ 7 = .val xv ∧ t'.ρ 9 = .val (.int .i64 k) ∧ t'.ρ 10 = .val yv ∧ t'.ρ 11 = .val (.int .i64 j))
          (fun t' => t'.H = H8 ∧ t'.ρ 0 = .val v ∧ t'.ρ 2 = .val (.bool false) ∧ t'.ρ 3 = .val w ∧ t'.ρ 4 = .val (.int .i64 u) ∧ t'.ρ 5 = .val lv ∧ t'.ρ 6 = .val (.int .i64 i) ∧ t'.ρ 7 = .val xv ∧ t'.ρ 9 = .val (.int .i64 k)) ?_ ?_ ?_
        · exact ⟨rfl, by simp [upd, t0], by simp [upd, t2], by simp [upd, t3], by simp [upd, t4], by simp [upd, t5], by simp [upd, t6], by simp [upd, t7], by simp [upd, t9], by simp [upd], by simp [upd]⟩
        · rintro j t' hj ⟨tH', b0, b2, b3, b4, b5, b6, b7, b9, b10, b11⟩
          simp only [go_sem, ↓reduceIte, Nat.reduceEqDiff, reduceCtorEq, Nat.reduceAdd, Nat.reduceLeDiff, Nat.reduceMul, b0, b2, b3, b4, b5, b6, b7, b9, b10, b11, tH', s8.len]
          cases q3 : decide ((j : Int) < ((usersL g S).length : Int)) <;> simp only [go_sem, ↓reduceIte, Nat.reduceEqDiff, reduceCtorEq, Nat.reduceAdd, Nat.reduceLeDiff, Nat.reduceMul, b0, b2, b3, b4, b5, b6, b7, b9, b10, b11, q3]
          have hjl : j < (usersL g S).length := by have := of_decide_eq_true q3; omega
          have w3' := wrap64 ((j : Int) + 1) (by omega) (by omega)
          obtain ⟨id4, p4, o4, ho4, hr4, hia4⟩ := s8.int (List.getElem?_eq_getElem hjl)
          have hin : (usersL g S)[j] ∈ usersL g i := (mem_users hok hil).2 (user_sub (List.getElem?_eq_getElem hil) (by rw [← hS]; exact List.getElem_mem hkl) ((mem_users hok hSl).1 (List.getElem_mem hjl)))
          have c36 := fun {m draw s d ts Q} => callT_at (m := m) (draw := draw) (s := s) (d := d) (ts := ts) (Q := Q) (f36 (h := (usersL g S)[j]) x8)
          have dm : decide ((usersL g S)[j] ∈ usersL g i) = true := decide_eq_true hin
          simp only [go_sem, ↓reduceIte, Nat.reduceEqDiff, reduceCtorEq, Nat.reduceAdd, Nat.reduceLeDiff, Nat.reduceMul, b0, b2, b3, b4, b5, b6, b7, b9, b10, b11, tH', hia4, ho4, hr4, c36, w8, dm, w3']
          exact ⟨hjl, by simp⟩
        · rintro t' ⟨tH', b0, b2, b3, b4, b5, b6, b7, b9⟩
          simp only [go_sem, ↓reduceIte, Nat.reduceEqDiff, reduceCtorEq, Nat.reduceAdd, Nat.reduceLeDiff, Nat.reduceMul, b0, b2, b3, b4, b5, b6, b7, b9, w2']
          exact ⟨hkl, by rw [tH']; exact tH.trans p8, by simp⟩
      · clear tH t0 t2 t3 t4 t5 t6 t7
        rintro t ⟨tH, t0, t2, t3, t4, t5, t6⟩
        simp only [go_sem, ↓reduceIte, Nat.reduceEqDiff, reduceCtorEq, Nat.reduceAdd, Nat.reduceLeDiff, Nat.reduceMul, t0, t2, t3, t4, t5, t6, w1']
        exact ⟨hil, kH.trans (p6.trans (p7.trans tH)), by simp⟩
  · rintro s ⟨kH, k0, k2⟩
    have kw := w5.pre kH
    simp only [go_sem, ↓reduceIte, Nat.reduceEqDiff, reduceCtorEq, Nat.reduceAdd, Nat.reduceLeDiff, Nat.reduceMul, k0]
    refine callT_now (f54 (v5.pre kH) kw hnr) fun r6 H6 ⟨wa, wb, a, b, e6, p6, sa, sb, la, lb⟩ => ?_
    subst e6
    have p6 : s.H <+: H6 := p6
    have w6 := kw.pre p6
    simp only [go_sem, ↓reduceIte, Nat.reduceEqDiff, reduceCtorEq, Nat.reduceAdd, Nat.reduceLeDiff, Nat.reduceMul, List.getElem?_toArray, ofV]
    refine callT_nr (fun m' h hn => f51 sa sb h (hn.trans hnr)) rfl w6 fun mv H7 ⟨p7, lg, gg, eg⟩ => ?_
    have w7 := w6.pre p7
    have sm := gg.g
    rw [eg] at sm
    have sa7 := sa.preG p7
    have sb7 := sb.preG p7
    have aa := fun {m draw s d ts Q} => callT_at (m := m) (draw := draw) (s := s) (d := d) (ts := ts) (Q := Q) (f39 sa7)
    have ab := fun {m draw s d ts Q} => callT_at (m := m) (draw := draw) (s := s) (d := d) (ts := ts) (Q := Q) (f39 sb7)
    have nope : ¬ (groupsOk a = true ∧ groupsOk b = true) → decide (((mergeL a b).length : Int) = 0) = true := fun h => by rw [mergeL_no h]; rfl
    simp only [go_sem, ↓reduceIte, Nat.reduceEqDiff, reduceCtorEq, Nat.reduceAdd, Nat.reduceLeDiff, Nat.reduceMul, aa, w7]
    cases hoa : groupsOk a <;> simp only [go_sem, ↓reduceIte, Nat.reduceEqDiff, reduceCtorEq, Nat.reduceAdd, Nat.reduceLeDiff, Nat.reduceMul, hoa, ab, w7]
    · have n1 := nope (fun h => by rw [hoa] at h; cases h.1)
      simp only [go_sem, ↓reduceIte, Nat.reduceEqDiff, reduceCtorEq, Nat.reduceAdd, Nat.reduceLeDiff, Nat.reduceMul, sm.len, n1]
    cases hob : groupsOk b <;> simp only [go_sem, ↓reduceIte, Nat.reduceEqDiff, reduceCtorEq, Nat.reduceAdd, Nat.reduceLeDiff, Nat.reduceMul, hob]
    · have n1 := nope (fun h => by rw [hob] at h; cases h.2)
      simp only [go_sem, ↓reduceIte, Nat.reduceEqDiff, reduceCtorEq, Nat.reduceAdd, Nat.reduceLeDiff, Nat.reduceMul, sm.len, n1]
    have hab : groupsOk a = true ∧ groupsOk b = true := ⟨hoa, hob⟩
    have hmok := merge_ok hab
    have hml := merge_len hab
    refine go_for a.length (fun i t => H7 <+: t.H ∧ t.ρ 2 = .val (.bool false) ∧ t.ρ 12 = .val wa ∧ t.ρ 13 = .val wb ∧ t.ρ 14 = .val mv ∧ t.ρ 15 = .val (.int .i64 i))
      (fun t => H7 <+: t.H ∧ t.ρ 12 = .val wa ∧ t.ρ 13 = .val wb ∧ t.ρ 14 = .val mv) ?_ ?_ ?_
    · exact ⟨List.prefix_refl _, by simp [upd, k2], by simp [upd], by simp [upd], by simp [upd], by simp [upd]⟩
    · rintro i t hi ⟨tH, t2, t12, t13, t14, t15⟩
      have ta := sa7.preG tH
      have tm := sm.preG tH
      have tw := w7.pre tH
      simp only [go_sem, ↓reduceIte, Nat.reduceEqDiff, reduceCtorEq, Nat.reduceAdd, Nat.reduceLeDiff, Nat.reduceMul, t2, t12, t13, t14, t15, ta.len]
      cases q1 : decide ((i : Int) < (a.length : Int)) <;> simp only [go_sem, ↓reduceIte, Nat.reduceEqDiff, reduceCtorEq, Nat.reduceAdd, Nat.reduceLeDiff, Nat.reduceMul, t2, t12, t13, t14, t15, q1]
      · exact tH
      have hil : i < a.length := by have := of_decide_eq_true q1; omega
      have w1' := wrap64 ((i : Int) + 1) (by omega) (by omega)
      refine callT_to (fun m' h => f46 (i := (i : Int)) ta h) rfl tw fun xv H8 ⟨p8, s8, o8⟩ => ?_
      have w8 := tw.pre p8
      simp only [go_sem, ↓reduceIte, Nat.reduceEqDiff, reduceCtorEq, Nat.reduceAdd, Nat.reduceLeDiff, Nat.reduceMul, t2, t12, t13, t14, t15]
      refine callT_to (fun m' h => f47 (i := (i : Int)) (tm.preG p8) (by omega) h) rfl w8 fun yv H9 ⟨p9, s9, o9⟩ => ?_
      have w9 := w8.pre p9
      have x9 := s8.pre p9
      have hroom := x9.room
      simp only [go_sem, ↓reduceIte, Nat.reduceEqDiff, reduceCtorEq, Nat.reduceAdd, Nat.reduceLeDiff, Nat.reduceMul, t2, t12, t13, t14, t15]
      refine go_for (usersL a i).length (fun j t' => t'.H = H9 ∧ t'.ρ 2 = .val (.bool false) ∧ t'.ρ 12 = .val wa ∧ t'.ρ 13 = .val wb ∧ t'.ρ 14 = .val mv ∧ t'.ρ 15 = .val (.int .i64 i) ∧ t'.ρ 16 = .val xv ∧ t'.ρ 17 = .val yv ∧ t'.ρ 18 = .val (.int .i64 j))
        (fun t' => t'.H = H9 ∧ t'.ρ 2 = .val (.bool false) ∧ t'.ρ 12 = .val wa ∧ t'.ρ 13 = .val wb ∧ t'.ρ 14 = .val mv ∧ t'.ρ 15 = .val (.int .i64 i)) ?_ ?_ ?_
      · exact ⟨rfl, by simp [upd, t2], by simp [upd, t12], by simp [upd, t13], by simp [upd, t14], by simp [upd, t15], by simp [upd], by simp [upd], by simp [upd]⟩
      · rintro j t' hj ⟨tH', b2, b12, b13, b14, b15, b16, b17, b18⟩
        simp only [go_sem, ↓reduceIte, Nat.reduceEqDiff, reduceCtorEq, Nat.reduceAdd, Nat.reduceLeDiff, Nat.reduceMul, b2, b12, b13, b14, b15, b16, b17, b18, tH', x9.len]
        cases q3 : decide ((j : Int) < ((usersL a i).length : Int)) <;> simp only [go_sem, ↓reduceIte, Nat.reduceEqDiff, reduceCtorEq, Nat.reduceAdd, Nat.reduceLeDiff, Nat.reduceMul, b2, b12, b13, b14, b15, b16, b17, b18, q3]
        have hjl : j < (usersL a i).length := by have := of_decide_eq_true q3; omega
        have w3' := wrap64 ((j : Int) + 1) (by omega) (by omega)
        obtain ⟨id4, p4, o4, ho4, hr4, hia4⟩ := x9.int (List.getElem?_eq_getElem hjl)
        have hin : (usersL a i)[j] ∈ usersL (mergeL a b) i := (mem_users hmok (by omega)).2 (merge_user hab ((mem_users hoa hil).1 (List.getElem_mem hjl)))
        have c36 := fun {m draw s d ts Q} => callT_at (m := m) (draw := draw) (s := s) (d := d) (ts := ts) (Q := Q) (f36 (h := (usersL a i)[j]) s9)
        have dm : decide ((usersL a i)[j] ∈ usersL (mergeL a b) i) = true := decide_eq_true hin
        simp only [go_sem, ↓reduceIte, Nat.reduceEqDiff, reduceCtorEq, Nat.reduceAdd, Nat.reduceLeDiff, Nat.reduceMul, b2, b12, b13, b14, b15, b16, b17, b18, tH', hia4, ho4, hr4, c36, w9, dm, w3']
        exact ⟨hjl, by simp⟩
      · rintro t' ⟨tH', b2, b12, b13, b14, b15⟩
        simp only [go_sem, ↓reduceIte, Nat.reduceEqDiff, reduceCtorEq, Nat.reduceAdd, Nat.reduceLeDiff, Nat.reduceMul, b2, b12, b13, b14, b15, w1']
        exact ⟨hil, by rw [tH']; exact tH.trans (p8.trans p9), by simp⟩
    · rintro t ⟨tH, t12, t13, t14⟩
      have tm := sm.preG tH
      have ta := sa7.preG tH
      have tb := sb7.preG tH
      have c39 := fun {m draw s d ts Q} => callT_at (m := m) (draw := draw) (s := s) (d := d) (ts := ts) (Q := Q) (f39 tm)
      have tw := w7.pre tH
      cases qa : decide (((mergeL a b).length : Int) = (a.length : Int)) with
      | true => simp only [go_sem, ↓reduceIte, Nat.reduceEqDiff, reduceCtorEq, Nat.reduceAdd, Nat.reduceLeDiff, Nat.reduceMul, t12, t13, t14, c39, tw, hmok, tm.len, ta.len, qa]
      | false =>
        have qb : decide (((mergeL a b).length : Int) = (b.length : Int)) = true := decide_eq_true (by have := of_decide_eq_false qa; omega)
        simp only [go_sem, ↓reduceIte, Nat.reduceEqDiff, reduceCtorEq, Nat.reduceAdd, Nat.reduceLeDiff, Nat.reduceMul, t12, t13, t14, c39, tw, hmok, tm.len, ta.len, tb.len, qa, qb]
end Go.Proofs.Ytdplmjlbkaipiaa.Ev
