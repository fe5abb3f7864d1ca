/- Texts of this proof, laid one behind the other: what each shows stands at its head. -/
import Derived.Test.YtjepmnmakemfoaaB3
import Derived.Test.YtjepmnmakemfoaaB4
/- The sort of a table's rows, and the law TabAdd. -/
namespace Go.Proofs.Ytjepmnmakemfoaa.Ev
set_option linter.all false
open Go
set_option maxRecDepth 4000

theorem f92s {m : Md} {H : Hp} {v : Value} {L : List Rw} {a b : Nat} {x : Int} (hl : SlRw H v L) (hg : Gd L) (hab : a ≤ b) (hb : b ≤ L.length) (h12 : b ≤ a + 12) (hle : L.length ≤ 1000) (hw0 : Wr m H) (hv : ∀ id ∈ idsOf v, m.wr id = true) :
    Fun EE m 92 [v, .int .i64 a, .int .i64 b, .int .i64 x, .func (.func 57) #[] #[]] H fun _ H' => ∃ L', So H v L L' H' ∧ InP L L' a b ∧ SR L' a b := by
  refine fun_f rfl rfl k92 (by simp [c92]) ?_
  have w1 : IntKind.i64.wrap ((b : Int) - (a : Int)) = (b : Int) - (a : Int) := wrap64 _ (by omega) (by omega)
  have d1 : decide ((b : Int) - (a : Int) ≤ 12) = true := decide_eq_true (by omega)
  simp only [go_sem, ↓reduceIte, Nat.reduceEqDiff, reduceCtorEq, Nat.reduceAdd, Nat.reduceLeDiff, Nat.reduceMul, c92]
  refine go_loop (fun j t => j = 0 ∧ t.H = H ∧ t.ρ 0 = .val v ∧ t.ρ 1 = .val (.int .i64 a) ∧ t.ρ 2 = .val (.int .i64 b) ∧ t.ρ 4 = .val (.func (.func 57) #[] #[])) (fun _ => False) 0 ⟨rfl, rfl, by simp [upd, ini], by simp [upd, ini], by simp [upd, ini], by simp [upd, ini]⟩ ?_ (fun _ h => h.elim)
  rintro j t ⟨rfl, tH, t0, t1, t2, t4⟩
  have f := f98 hl hg hab hb hle hw0 hv
  rw [← tH] at f
  simp only [go_sem, ↓reduceIte, Nat.reduceEqDiff, reduceCtorEq, Nat.reduceAdd, Nat.reduceLeDiff, Nat.reduceMul, t0, t1, t2, t4, w1, d1]
  refine callT_now f fun r H1 h => ?_
  rw [tH] at h
  simp only [go_sem, ↓reduceIte, Nat.reduceEqDiff, reduceCtorEq, Nat.reduceAdd, Nat.reduceLeDiff, Nat.reduceMul]
  exact h

def So2 (H : Hp) (v : Value) (L L' : List Rw) (H' : Hp) : Prop := SlRw H' v L' ∧ (∀ j, j < H.length → j ∉ idsOf v → H'[j]? = H[j]?) ∧ H.length ≤ H'.length ∧ L'.Perm L
theorem So2.of {H H1 H2 : Hp} {v : Value} {L L' : List Rw} (p : H <+: H1) (h : So H1 v L L' H2) : So2 H v L L' H2 := ⟨h.1, fun j hj hn => by rw [h.2.1 j hn, pre_get p hj], by have := p.length_le; have := h.2.2.1; omega, h.2.2.2⟩

theorem f92 {m : Md} {H : Hp} {v : Value} {L : List Rw} {n : Nat} {x : Int} (hl : SlRw H v L) (hg : Gd L) (h13 : 13 ≤ n) (h20 : n ≤ 20) (hn : n = L.length) (hS : SR L 0 (n - 1)) (hx : x ≠ 0) (hw0 : Wr m H) (hv : ∀ id ∈ idsOf v, m.wr id = true) :
    Fun EE m 92 [v, .int .i64 0, .int .i64 n, .int .i64 x, .func (.func 57) #[] #[]] H fun _ H' => ∃ L', So2 H v L L' H' ∧ SR L' 0 n := by
  refine fun_f rfl rfl k92 (by simp [c92]) ?_
  have z0 : ((0 : Nat) : Int) = 0 := rfl
  simp only [go_sem, ↓reduceIte, Nat.reduceEqDiff, reduceCtorEq, Nat.reduceAdd, Nat.reduceLeDiff, Nat.reduceMul, c92]
  refine go_loop (fun j t => t.ρ 0 = .val v ∧ t.ρ 3 = .val (.int .i64 x) ∧ t.ρ 4 = .val (.func (.func 57) #[] #[]) ∧
      ((j = 1 ∧ t.H = H ∧ t.ρ 1 = .val (.int .i64 0) ∧ t.ρ 2 = .val (.int .i64 n) ∧ t.ρ 10 = .val (.bool true) ∧ t.ρ 11 = .val (.bool true)) ∨
       (j = 0 ∧ ∃ (a b : Nat) (L2 : List Rw), t.ρ 1 = .val (.int .i64 a) ∧ t.ρ 2 = .val (.int .i64 b) ∧ So2 H v L L2 t.H ∧ a ≤ b ∧ b ≤ n ∧ b ≤ a + 12 ∧ ∀ L3, InP L2 L3 a b → SR L3 a b → SR L3 0 n)))
    (fun _ => False) 1 ⟨by simp [upd, ini], by simp [upd, ini], by simp [upd, ini], .inl ⟨rfl, rfl, by simp [upd, ini], by simp [upd, ini], by simp [upd], by simp [upd]⟩⟩ ?_ (fun _ h => h.elim)
  rintro j t ⟨t0, t3, t4, h⟩
  rcases h with ⟨rfl, tH, t1, t2, t10, t11⟩ | ⟨rfl, a, b, L2, t1, t2, hS2, hab, hb, h12, hfin⟩
  rotate_left
  · have w1 : IntKind.i64.wrap ((b : Int) - (a : Int)) = (b : Int) - (a : Int) := wrap64 _ (by omega) (by omega)
    have d1 : decide ((b : Int) - (a : Int) ≤ 12) = true := decide_eq_true (by omega)
    have hl2 : L2.length = L.length := hS2.2.2.2.length_eq
    simp only [go_sem, ↓reduceIte, Nat.reduceEqDiff, reduceCtorEq, Nat.reduceAdd, Nat.reduceLeDiff, Nat.reduceMul, t0, t1, t2, t3, t4, w1, d1]
    have w2 : Wr m t.H := fun j hj => hw0 j (Nat.le_trans hS2.2.2.1 hj)
    refine callT_now (f98 hS2.1 (hg.perm hS2.2.2.2) hab (by omega) (by omega) w2 hv) fun r H1 ⟨L3, s3, i3, r3⟩ => ?_
    simp only [go_sem, ↓reduceIte, Nat.reduceEqDiff, reduceCtorEq, Nat.reduceAdd, Nat.reduceLeDiff, Nat.reduceMul]
    exact ⟨L3, ⟨s3.1, fun j hj hn => by rw [s3.2.1 j hn, hS2.2.1 j hj hn], by rw [s3.2.2.1]; exact hS2.2.2.1, s3.2.2.2.trans hS2.2.2.2⟩, hfin L3 i3 r3⟩
  have wn : IntKind.i64.wrap ((n : Int) - 0) = n := by rw [wrap64 _ (by omega) (by omega)]; omega
  have d12 : decide ((n : Int) ≤ 12) = false := decide_eq_false (by omega)
  have dx : decide (x = 0) = false := decide_eq_false hx
  have f1 := f101 hl hg h13 h20 hn hS hw0
  rw [← tH] at f1
  simp only [go_sem, ↓reduceIte, Nat.reduceEqDiff, reduceCtorEq, Nat.reduceAdd, Nat.reduceLeDiff, Nat.reduceMul, t0, t1, t2, t3, t4, t10, t11, wn, d12, dx]
  refine callT_now f1 fun r H1 ⟨e1, p1⟩ => ?_
  rw [tH] at p1
  subst e1
  have l1 := hl.pre p1
  have w1 := hw0.pre p1
  have d2 : decide ((1 : Int) = 2) = false := rfl
  have d3 : decide ((1 : Int) = 1) = true := rfl
  simp only [go_sem, ↓reduceIte, Nat.reduceEqDiff, reduceCtorEq, Nat.reduceAdd, Nat.reduceLeDiff, Nat.reduceMul, t0, t1, t2, t3, t4, t10, t11, List.getElem?_toArray, d2, d3]
  refine callT_now (f103 l1 hg (by omega) h20 hn w1) fun r H2 ⟨⟨b, e2, hb⟩, e3⟩ => ?_
  subst e2
  have e3 : H2 = H1 := e3
  subst e3
  cases b with
  | true =>
    simp only [go_sem, ↓reduceIte, Nat.reduceEqDiff, reduceCtorEq, Nat.reduceAdd, Nat.reduceLeDiff, Nat.reduceMul]
    exact ⟨L, So2.of p1 (So.refl l1), hb rfl⟩
  | false =>
  simp only [go_sem, ↓reduceIte, Nat.reduceEqDiff, reduceCtorEq, Nat.reduceAdd, Nat.reduceLeDiff, Nat.reduceMul, t0, t1, t2, t3, t4, t10, t11]
  have d4 : decide ((0 : Int) > 0) = false := rfl
  refine go_draw ?_
  simp only [go_sem, ↓reduceIte, Nat.reduceEqDiff, reduceCtorEq, Nat.reduceAdd, Nat.reduceLeDiff, Nat.reduceMul, t0, t1, t2, t3, t4, t10, t11, d4]
  refine ⟨by rfl, ?_⟩
  refine callT_now (f105 l1 hg (p := n / 4 * 2) (by omega) (by omega) h20 hn hS w1 hv) fun r H3 ⟨mid, b, L3, e4, hm1, hm2, s3, hsep⟩ => ?_
  subst e4
  have s3' := So2.of p1 s3
  have n3 : L3.length = L.length := s3.2.2.2.length_eq
  have G3 := hg.perm s3.2.2.2
  have w3 : Wr m H3 := fun j hj => hw0 j (by have := s3'.2.2.1; omega)
  have wm : IntKind.i64.wrap ((mid : Int) - 0) = mid := by rw [wrap64 _ (by omega) (by omega)]; omega
  have wr : IntKind.i64.wrap ((n : Int) - (mid : Int)) = (n : Int) - (mid : Int) := wrap64 _ (by omega) (by omega)
  have wm1 : IntKind.i64.wrap ((mid : Int) + 1) = ((mid + 1 : Nat) : Int) := by rw [wrap64 _ (by omega) (by omega)]; omega
  have ne8 : ¬ ((8 : Int) = 0) := by decide
  simp only [go_sem, ↓reduceIte, Nat.reduceEqDiff, reduceCtorEq, Nat.reduceAdd, Nat.reduceLeDiff, Nat.reduceMul, t0, t1, t2, t3, t4, t10, t11, List.getElem?_toArray, wm, wr, ne8]
  refine brT.intro (fun q => ?_) (fun q => ?_) <;> simp only [go_sem, ↓reduceIte, Nat.reduceEqDiff, reduceCtorEq, Nat.reduceAdd, Nat.reduceLeDiff, Nat.reduceMul, t0, t1, t2, t3, t4, t10, t11, wm1]
  · refine callT_now (f92s (a := 0) (b := mid) s3.1 G3 (Nat.zero_le _) (by omega) (by omega) (by omega) w3 hv) fun r H4 ⟨L4, s4, i4, r4⟩ => ?_
    simp only [go_sem, ↓reduceIte, Nat.reduceEqDiff, reduceCtorEq, Nat.reduceAdd, Nat.reduceLeDiff, Nat.reduceMul, t0, t1, t2, t3, t4, t10, t11, wm1]
    refine ⟨0, by omega, .inr ⟨rfl, mid + 1, n, L4, rfl, rfl, ⟨s4.1, fun j hj hn => by rw [s4.2.1 j hn, s3'.2.1 j hj hn], by rw [s4.2.2.1]; exact s3'.2.2.1, s4.2.2.2.trans s3.2.2.2⟩, by omega, Nat.le_refl _, by omega, fun L5 i5 r5 => ?_⟩⟩
    refine sep_sorted (L1 := L3) hsep.1 hsep.2 ?_ (fun k hk => ?_) (fun k h1 h2 => ?_) (fun p q h1 h2 h3 => ?_) r5
    · rw [i5.1 mid (by omega), i4.1 mid (by omega)]
    · rw [i5.1 k (by omega)]
      obtain ⟨k', a1, a2, a3⟩ := i4.2 k (Nat.zero_le _) hk
      exact ⟨k', a2, a3⟩
    · obtain ⟨k', a1, a2, a3⟩ := i5.2 k h1 h2
      exact ⟨k', a1, a2, by rw [a3, i4.1 k' (by omega)]⟩
    · rw [i5.1 p (by omega), i5.1 q (by omega)]
      exact r4 p q h1 h2 h3
  · refine callT_now (f92s (a := mid + 1) (b := n) s3.1 G3 (by omega) (by omega) (by omega) (by omega) w3 hv) fun r H4 ⟨L4, s4, i4, r4⟩ => ?_
    simp only [go_sem, ↓reduceIte, Nat.reduceEqDiff, reduceCtorEq, Nat.reduceAdd, Nat.reduceLeDiff, Nat.reduceMul, t0, t1, t2, t3, t4, t10, t11, wm1]
    refine ⟨0, by omega, .inr ⟨rfl, 0, mid, L4, rfl, rfl, ⟨s4.1, fun j hj hn => by rw [s4.2.1 j hn, s3'.2.1 j hj hn], by rw [s4.2.2.1]; exact s3'.2.2.1, s4.2.2.2.trans s3.2.2.2⟩, by omega, by omega, by omega, fun L5 i5 r5 => ?_⟩⟩
    refine sep_sorted (L1 := L3) hsep.1 hsep.2 ?_ (fun k hk => ?_) (fun k h1 h2 => ?_) r5 (fun p q h1 h2 h3 => ?_)
    · rw [i5.1 mid (by omega), i4.1 mid (by omega)]
    · obtain ⟨k', a1, a2, a3⟩ := i5.2 k (Nat.zero_le _) hk
      exact ⟨k', a2, by rw [a3, i4.1 k' (by omega)]⟩
    · rw [i5.1 k (by omega)]
      obtain ⟨k', a1, a2, a3⟩ := i4.2 k h1 h2
      exact ⟨k', a1, a2, a3⟩
    · rw [i5.1 p (by omega), i5.1 q (by omega)]
      exact r4 p q h1 h2 h3

/-- All rows sorted. -/
theorem f70 {m : Md} {H : Hp} {v : Value} {L : List Rw} (hl : SlRw H v L) (hg : Gd L) (h1 : 1 ≤ L.length) (h20 : L.length ≤ 20) (hS : SR L 0 (L.length - 1)) (hw0 : Wr m H) (hv : ∀ id ∈ idsOf v, m.wr id = true) :
    Fun EE m 70 [v, .func (.func 57) #[] #[]] H fun _ H' => ∃ L', So2 H v L L' H' ∧ L'.Pairwise ltR := by
  refine fun_f rfl rfl k70 (by simp [c70]) ?_
  have w1 : IntKind.u64.wrap ((L.length : Nat) : Int) = ((L.length : Nat) : Int) := by
    show ((L.length : Nat) : Int) % 18446744073709551616 = _
    omega
  simp only [go_sem, ↓reduceIte, Nat.reduceEqDiff, reduceCtorEq, Nat.reduceAdd, Nat.reduceLeDiff, Nat.reduceMul, c70, hl.len, w1]
  refine callT_now (f93 h20 hw0) fun r H1 ⟨⟨x, e1, hx⟩, e2⟩ => ?_
  subst e1
  have e2 : H1 = H := e2
  subst e2
  simp only [go_sem, ↓reduceIte, Nat.reduceEqDiff, reduceCtorEq, Nat.reduceAdd, Nat.reduceLeDiff, Nat.reduceMul]
  have pw : ∀ {L' : List Rw}, L'.Perm L → SR L' 0 L.length → L'.Pairwise ltR := fun {L'} p h => SR.pairwise (by rw [p.length_eq]; exact h)
  by_cases h13 : 13 ≤ L.length
  · refine callT_now (f92 hl hg h13 h20 rfl hS (hx h13) hw0 hv) fun r H2 ⟨L', s, hr⟩ => ?_
    simp only [go_sem, ↓reduceIte, Nat.reduceEqDiff, reduceCtorEq, Nat.reduceAdd, Nat.reduceLeDiff, Nat.reduceMul]
    exact ⟨L', s, pw s.2.2.2 hr⟩
  · refine callT_now (f92s (a := 0) (b := L.length) (x := x) hl hg (Nat.zero_le _) (Nat.le_refl _) (by omega) (by omega) hw0 hv) fun r H2 ⟨L', s, _, hr⟩ => ?_
    simp only [go_sem, ↓reduceIte, Nat.reduceEqDiff, reduceCtorEq, Nat.reduceAdd, Nat.reduceLeDiff, Nat.reduceMul]
    exact ⟨L', So2.of (List.prefix_refl _) s, pw s.2.2.2 hr⟩

theorem f37 {m : Md} {H : Hp} {v : Value} {l : List Rw} {w k : Int} (hl : SlRw H v l) (hle : l.length ≤ 1048576) (hw : Wr m H) : Fun EE m 37 [v, .int .i64 w, .int .i64 k] H fun r H' => AddR H l w k r H' := by
  refine fun_f rfl rfl k37 (by simp [c37]) ?_
  have a18 := fun {m draw t d ts Q} => callT_at (m := m) (draw := draw) (s := t) (d := d) (ts := ts) (Q := Q) (f18 hl)
  simp only [go_sem, ↓reduceIte, Nat.reduceEqDiff, reduceCtorEq, Nat.reduceAdd, Nat.reduceLeDiff, Nat.reduceMul, c37, a18, hw]
  unfold AddR addT
  cases hB : tbOk l with
  | false =>
    simp only [go_sem, ↓reduceIte, Nat.reduceEqDiff, reduceCtorEq, Nat.reduceAdd, Nat.reduceLeDiff, Nat.reduceMul]
    exact ⟨_, rfl, FreshS.nil (List.prefix_refl _)⟩
  | true =>
  have hok := tbOk_t.1 hB
  have h20 := hok.1
  have hv := lastV_in hok w
  have hpw := tb_pairwise hok
  rw [if_pos rfl]
  simp only [go_sem, ↓reduceIte, Nat.reduceEqDiff, reduceCtorEq, Nat.reduceAdd, Nat.reduceLeDiff, Nat.reduceMul]
  refine callT_to (fun m' h => f69 hl hle h) rfl hw fun u H1 ⟨p1, s1, o1⟩ => ?_
  have w1 := hw.pre p1
  have l1 := hl.pre p1
  have a23 := fun {m draw t d ts Q} => callT_at (m := m) (draw := draw) (s := t) (d := d) (ts := ts) (Q := Q) (f23 (w := w) l1 hB)
  have a54 := fun {a : Int} {m draw t d ts Q} => callT_at (m := m) (draw := draw) (s := t) (d := d) (ts := ts) (Q := Q) (f54i (H := H1) (a := a))
  have a56 := fun {a : Int} {m draw t d ts Q} => callT_at (m := m) (draw := draw) (s := t) (d := d) (ts := ts) (Q := Q) (f56i (H := H1) (a := a))
  have a58 := fun {m draw t' d ts Q} => callT_at (m := m) (draw := draw) (s := t') (d := d) (ts := ts) (Q := Q) (f58 (t := k) l1)
  have hver := nowR_ver l w
  unfold vRw at a23
  have no : addOk l w k = false → ∃ u', Value.tuple #[u, .bool false] = .tuple #[u', .bool (if addOk l w k = true then (insR w (lastV l w + 1) k l, true) else (l, false)).2] ∧ FreshS eRw 3 H u' H1 (if addOk l w k = true then (insR w (lastV l w + 1) k l, true) else (l, false)).1 := fun h => by
    rw [if_neg (by rw [h]; decide)]
    exact ⟨_, rfl, p1, s1, o1⟩
  simp only [go_sem, ↓reduceIte, Nat.reduceEqDiff, reduceCtorEq, Nat.reduceAdd, Nat.reduceLeDiff, Nat.reduceMul, a23, w1, List.getElem?_toArray, a54]
  cases h1 : inB w 0 99 <;> simp only [go_sem, ↓reduceIte, Nat.reduceEqDiff, reduceCtorEq, Nat.reduceAdd, Nat.reduceLeDiff, Nat.reduceMul, h1, a56, w1]
  · exact no (by simp [addOk, h1])
  cases h2 : inB k 1 1000000 <;> simp only [go_sem, ↓reduceIte, Nat.reduceEqDiff, reduceCtorEq, Nat.reduceAdd, Nat.reduceLeDiff, Nat.reduceMul, h2, a58, w1]
  · exact no (by simp [addOk, h2])
  cases h3 : keyIn l k <;> simp only [go_sem, ↓reduceIte, Nat.reduceEqDiff, reduceCtorEq, Nat.reduceAdd, Nat.reduceLeDiff, Nat.reduceMul, h3, l1.len]
  rotate_left
  · exact no (by simp [addOk, h3])
  cases h4 : decide ((l.length : Int) = 20) <;> simp only [go_sem, ↓reduceIte, Nat.reduceEqDiff, reduceCtorEq, Nat.reduceAdd, Nat.reduceLeDiff, Nat.reduceMul, h4]
  rotate_left
  · exact no (by have := of_decide_eq_true h4; simp [addOk]; intros; omega)
  have h4' : l.length < 20 := by have := of_decide_eq_false h4; omega
  rw [hver]
  cases h5 : decide (lastV l w = 1000) <;> simp only [go_sem, ↓reduceIte, Nat.reduceEqDiff, reduceCtorEq, Nat.reduceAdd, Nat.reduceLeDiff, Nat.reduceMul, h5]
  rotate_left
  · exact no (by have := of_decide_eq_true h5; simp [addOk]; intros; omega)
  have h5' : lastV l w + 1 ≤ 1000 := by have := of_decide_eq_false h5; omega
  have n1 : IntKind.i64.wrap (lastV l w + 1) = lastV l w + 1 := wrap64 _ (by omega) (by omega)
  have hadd : addOk l w k = true := by simp [addOk, h1, h2, h3, h4', h5']
  rw [if_pos hadd]
  obtain ⟨v2, H2, e1, e2, e3, e4, e5, e6, e7⟩ := s1.oneRw (m := m) (w, lastV l w + 1, k) o1 p1.length_le hw (by omega)
  unfold eRw at e1
  simp only [go_sem, ↓reduceIte, Nat.reduceEqDiff, reduceCtorEq, Nat.reduceAdd, Nat.reduceLeDiff, Nat.reduceMul, n1]
  rw [e1]
  rotate_left
  · rfl
  · rfl
  · rfl
  have p2 := e7 H (Nat.le_refl _) p1
  have hmem := lastV_mem hpw (fun x hx => tb_row hok hx) (w := w)
  have hlt : ∀ x ∈ l, x.1 = w → x.2.1 < lastV l w + 1 := fun x hx e => by have := hmem x hx e; omega
  obtain ⟨ip, iperm⟩ := insR_spec (k := k) hpw hlt
  have hzok : rowOkB (w, lastV l w + 1, k) = true := by
    have := inB_t.1 h1
    have := inB_t.1 h2
    simp only [rowOkB, Bool.and_eq_true, inB_t]
    omega
  have hgd : Gd (l ++ [(w, lastV l w + 1, k)]) := ⟨fun x hx => by
      rcases List.mem_append.1 hx with h | h
      · exact tb_row hok h
      · rw [List.mem_singleton] at h
        subst h
        exact hzok, (iperm.pairwise_iff (fun h => h.symm)).1 (ip.imp fun h => .inl h)⟩
  have hSR : SR (l ++ [(w, lastV l w + 1, k)]) 0 ((l ++ [(w, lastV l w + 1, k)]).length - 1) := fun p q _ hpq hq => by
    have hql : q < l.length := by simpa using hq
    rw [gR_at (by simp; omega), gR_at (by simp; omega), List.getElem_append_left (by omega), List.getElem_append_left hql]
    exact List.pairwise_iff_getElem.1 hpw p q (by omega) hql hpq
  simp only [go_sem, ↓reduceIte, Nat.reduceEqDiff, reduceCtorEq, Nat.reduceAdd, Nat.reduceLeDiff, Nat.reduceMul]
  refine callT_now (f70 e2 hgd (by simp) (by simp; omega) hSR (hw.pre p2) (fun id hid => hw id (own_ge e3 id hid))) fun r H3 ⟨L', s3, hp3⟩ => ?_
  simp only [go_sem, ↓reduceIte, Nat.reduceEqDiff, reduceCtorEq, Nat.reduceAdd, Nat.reduceLeDiff, Nat.reduceMul]
  have e : L' = insR w (lastV l w + 1) k l := sorted_eq hp3 ip (s3.2.2.2.trans iperm.symm)
  subst e
  refine ⟨_, rfl, ?_, s3.1, e3⟩
  exact pre_keep p2 (fun j hj => s3.2.1 j (Nat.lt_of_lt_of_le hj p2.length_le) (own_notin e3 hj)) s3.2.2.1
end Go.Proofs.Ytjepmnmakemfoaa.Ev

/- Code of the program's functions, as the small machine has it: written by mkcode.py. -/
namespace Go.Proofs.Ytjepmnmakemfoaa.Ev
set_option linter.all false
open Go
def c11 : CF := ⟨182, (.seq (.reg false [⟨(some 2), .none, (.mov (.c (.bool false))), 0, []⟩]) (.seq (.seq (.reg false [⟨(some 20), .none, (.mov (.t 0)), 0, []⟩, ⟨(some 21), .none, (.call 33 [(.t 20)]), 1, []⟩]) (.cond (.t 21) (.seq (.reg false [⟨(some 2), .none, (.mov (.c (.bool true))), 0, []⟩]) .ret) .skip)) (.seq (.reg false [⟨(some 23), .none, (.mov (.t 0)), 0, []⟩, ⟨(some 24), .none, (.call 38 [(.t 23)]), 1, []⟩, ⟨(some 22), .none, (.mov (.t 24)), 2, []⟩, ⟨(some 25), .none, (.ext (.t 22) 0), 3, []⟩, ⟨(some 26), .none, (.ext (.t 22) 1), 4, []⟩, ⟨(some 27), .none, (.ext (.t 22) 2), 5, []⟩, ⟨(some 3), .none, (.mov (.t 25)), 6, []⟩, ⟨(some 4), .none, (.mov (.t 26)), 7, []⟩, ⟨(some 5), .none, (.mov (.t 27)), 8, []⟩]) (.seq (.reg false [⟨(some 29), .none, (.mov (.t 3)), 0, []⟩, ⟨(some 30), .none, (.mov (.t 4)), 1, []⟩, ⟨(some 31), .none, (.mov (.t 5)), 2, []⟩, ⟨(some 32), .none, (.call 37 [(.t 29), (.t 30), (.t 31)]), 3, []⟩, ⟨(some 28), .none, (.mov (.t 32)), 4, []⟩, ⟨(some 33), .none, (.ext (.t 28) 0), 5, []⟩, ⟨(some 34), .none, (.ext (.t 28) 1), 6, []⟩, ⟨(some 6), .none, (.mov (.t 33)), 7, []⟩, ⟨(some 7), .none, (.mov (.t 34)), 8, []⟩]) (.seq (.reg false [⟨(some 36), .none, (.mov (.t 3)), 0, []⟩, ⟨(some 37), .none, (.mov (.t 4)), 1, []⟩, ⟨(some 38), .none, (.mov (.t 5)), 2, []⟩, ⟨(some 39), .none, (.call 36 [(.t 36), (.t 37), (.t 38)]), 3, []⟩, ⟨(some 35), .none, (.mov (.t 39)), 4, []⟩, ⟨(some 40), .none, (.ext (.t 35) 0), 5, []⟩, ⟨(some 41), .none, (.ext (.t 35) 1), 6, []⟩, ⟨(some 8), .none, (.mov (.t 40)), 7, []⟩, ⟨(some 9), .none, (.mov (.t 41)), 8, []⟩]) (.seq (.seq (.reg false [⟨(some 42), .none, (.mov (.t 7)), 0, []⟩, ⟨(some 43), .none, (.mov (.t 9)), 1, []⟩, ⟨(some 44), .none, (.beq true (.t 42) (.t 43)), 2, []⟩]) (.cond (.t 44) (.seq (.reg false [⟨(some 2), .none, (.mov (.c (.bool false))), 0, []⟩]) .ret) .skip)) (.seq (.seq (.reg false [⟨(some 45), .none, (.mov (.t 3)), 0, []⟩, ⟨(some 46), .none, (.call 16 [(.t 45)]), 1, []⟩, ⟨(some 47), .none, (.un .not (.t 46)), 2, []⟩]) (.cond (.t 47) (.seq (.reg false [⟨(some 48), .none, (.mov (.t 6)), 0, []⟩, ⟨(some 49), .none, (.lenS (.t 48)), 1, []⟩, ⟨(some 50), .none, (.bin .eql (.t 49) (.c (.int .i64 0))), 2, []⟩, ⟨(some 2), .none, (.mov (.t 50)), 3, []⟩]) .ret) .skip)) (.seq (.reg false [⟨(some 52), .none, (.mov (.t 3)), 0, []⟩, ⟨(some 53), .none, (.mov (.t 4)), 1, []⟩, ⟨(some 54), .none, (.call 22 [(.t 52), (.t 53)]), 2, []⟩, ⟨(some 51), .none, (.mov (.t 54)), 3, []⟩, ⟨(some 55), .none, (.ext (.t 51) 0), 4, []⟩, ⟨(some 56), .none, (.ext (.t 51) 1), 5, []⟩, ⟨(some 10), .none, (.newV [(.int .i64 0), (.int .i64 0), (.int .i64 0)]), 6, []⟩, ⟨.none, .none, (.store 3 (.t 10) (.t 55)), 7, []⟩, ⟨(some 11), .none, (.mov (.t 56)), 8, []⟩]) (.seq (.reg false [⟨(some 58), .none, (.mov (.t 6)), 0, []⟩, ⟨(some 59), .none, (.mov (.t 4)), 1, []⟩, ⟨(some 60), .none, (.call 23 [(.t 58), (.t 59)]), 2, []⟩, ⟨(some 57), .none, (.mov (.t 60)), 3, []⟩, ⟨(some 61), .none, (.ext (.t 57) 0), 4, []⟩, ⟨(some 62), .none, (.ext (.t 57) 1), 5, []⟩, ⟨(some 12), .none, (.newV [(.int .i64 0), (.int .i64 0), (.int .i64 0)]), 6, []⟩, ⟨.none, .none, (.store 3 (.t 12) (.t 61)), 7, []⟩, ⟨(some 13), .none, (.mov (.t 62)), 8, []⟩]) (.seq (.seq (.reg false [⟨(some 63), .none, (.mov (.t 7)), 0, []⟩, ⟨(some 64), .none, (.mov (.t 63)), 1, []⟩, ⟨(some 65), (.some (64, true)), (.mov (.t 13)), 2, []⟩, ⟨(some 66), (.some (64, true)), (.un .not (.t 65)), 3, []⟩, ⟨(some 67), (.some (64, true)), (.mov (.t 66)), 4, []⟩, ⟨(some 68), (.some (67, false)), (.fadr 2 (.t 12)), 5, []⟩, ⟨(some 69), (.some (67, false)), (.load 1 false (.t 68)), 6, []⟩, ⟨(some 70), (.some (67, false)), (.mov (.t 5)), 7, []⟩, ⟨(some 71), (.some (67, false)), (.bin .neq (.t 69) (.t 70)), 8, []⟩, ⟨(some 72), (.some (64, true)), (.pick (.t 67) (.c (.bool true)) (.t 71)), 9, []⟩, ⟨(some 73), (.some (64, true)), (.mov (.t 72)), 10, []⟩, ⟨(some 74), (.some (73, false)), (.mov (.t 11)), 11, []⟩, ⟨(some 75), (.some (73, false)), (.mov (.t 74)), 12, []⟩, ⟨(some 76), (.some (75, true)), (.fadr 1 (.t 12)), 13, []⟩, ⟨(some 77), (.some (75, true)), (.load 1 false (.t 76)), 14, []⟩, ⟨(some 78), (.some (75, true)), (.fadr 1 (.t 10)), 15, []⟩, ⟨(some 79), (.some (75, true)), (.load 1 false (.t 78)), 16, []⟩, ⟨(some 80), (.some (75, true)), (.bin .add (.t 79) (.c (.int .i64 1))), 17, []⟩, ⟨(some 81), (.some (75, true)), (.bin .neq (.t 77) (.t 80)), 18, []⟩, ⟨(some 82), (.some (73, false)), (.pick (.t 75) (.t 81) (.c (.bool false))), 19, []⟩, ⟨(some 83), (.some (64, true)), (.pick (.t 73) (.c (.bool true)) (.t 82)), 20, []⟩, ⟨(some 84), (.some (64, true)), (.mov (.t 83)), 21, []⟩, ⟨(some 85), (.some (84, false)), (.mov (.t 11)), 22, []⟩, ⟨(some 86), (.some (84, false)), (.un .not (.t 85)), 23, []⟩, ⟨(some 87), (.some (84, false)), (.mov (.t 86)), 24, []⟩, ⟨(some 88), (.some (87, true)), (.fadr 1 (.t 12)), 25, []⟩, ⟨(some 89), (.some (87, true)), (.load 1 false (.t 88)), 26, []⟩, ⟨(some 90), (.some (87, true)), (.bin .neq (.t 89) (.c (.int .i64 1))), 27, []⟩, ⟨(some 91), (.some (84, false)), (.pick (.t 87) (.t 90) (.c (.bool false))), 28, []⟩, ⟨(some 92), (.some (64, true)), (.pick (.t 84) (.c (.bool true)) (.t 91)), 29, []⟩, ⟨(some 93), (.some (64, true)), (.mov (.t 92)), 30, []⟩, ⟨(some 94), (.some (93, false)), (.mov (.t 6)), 31, []⟩, ⟨(some 95), (.some (93, false)), (.call 16 [(.t 94)]), 32, []⟩, ⟨(some 96), (.some (93, false)), (.un .not (.t 95)), 33, []⟩, ⟨(some 97), (.some (64, true)), (.pick (.t 93) (.c (.bool true)) (.t 96)), 34, []⟩, ⟨(some 98), (.some (64, true)), (.mov (.t 97)), 35, []⟩, ⟨(some 99), (.some (98, false)), (.mov (.t 6)), 36, []⟩, ⟨(some 100), (.some (98, false)), (.lenS (.t 99)), 37, []⟩, ⟨(some 101), (.some (98, false)), (.mov (.t 3)), 38, []⟩, ⟨(some 102), (.some (98, false)), (.lenS (.t 101)), 39, []⟩, ⟨(some 103), (.some (98, false)), (.bin .add (.t 102) (.c (.int .i64 1))), 40, []⟩, ⟨(some 104), (.some (98, false)), (.bin .neq (.t 100) (.t 103)), 41, []⟩, ⟨(some 105), (.some (64, true)), (.pick (.t 98) (.c (.bool true)) (.t 104)), 42, []⟩, ⟨(some 106), .none, (.pick (.t 64) (.t 105) (.c (.bool false))), 43, []⟩, ⟨(some 107), .none, (.mov (.t 106)), 44, []⟩, ⟨(some 108), (.some (107, false)), (.mov (.t 7)), 45, []⟩, ⟨(some 109), (.some (107, false)), (.un .not (.t 108)), 46, []⟩, ⟨(some 110), (.some (107, false)), (.mov (.t 109)), 47, []⟩, ⟨(some 111), (.some (110, true)), (.load 3 true (.t 12)), 48, []⟩, ⟨(some 112), (.some (110, true)), (.load 3 true (.t 10)), 49, []⟩, ⟨(some 113), (.some (110, true)), (.aeq true [0, 0, 0] (.t 111) (.t 112)), 50, []⟩, ⟨(some 114), (.some (107, false)), (.pick (.t 110) (.t 113) (.c (.bool false))), 51, []⟩, ⟨(some 115), .none, (.pick (.t 107) (.c (.bool true)) (.t 114)), 52, []⟩]) (.cond (.t 115) (.seq (.reg false [⟨(some 2), .none, (.mov (.c (.bool false))), 0, []⟩]) .ret) .skip)) (.seq (.seq (.reg false [⟨(some 14), .none, (.mov (.c (.int .i64 0))), 0, []⟩]) (.block 0 (.loop (.seq (.seq (.reg false [⟨(some 116), .none, (.mov (.t 14)), 0, []⟩, ⟨(some 117), .none, (.mov (.t 3)), 1, []⟩, ⟨(some 118), .none, (.lenS (.t 117)), 2, []⟩, ⟨(some 119), .none, (.bin .lss (.t 116) (.t 118)), 3, []⟩]) (.cond (.t 119) .skip (.exit 0))) (.seq (.block 1 (.seq (.reg true [⟨(some 123), .none, (.mov (.t 6)), 0, []⟩, ⟨(some 124), .none, (.mov (.t 3)), 1, []⟩, ⟨(some 125), .none, (.mov (.t 14)), 2, []⟩, ⟨(some 126), .none, (.iadr 3 (.t 124) (.t 125)), 3, [1, 2]⟩, ⟨(some 127), .none, (.fadr 0 (.t 126)), 4, [3, 1, 2]⟩, ⟨(some 128), .none, (.load 1 false (.t 127)), 5, [4, 3, 1, 2]⟩, ⟨(some 129), .none, (.mov (.t 3)), 6, []⟩, ⟨(some 130), .none, (.mov (.t 14)), 7, []⟩, ⟨(some 131), .none, (.iadr 3 (.t 129) (.t 130)), 8, [6, 7]⟩, ⟨(some 132), .none, (.fadr 1 (.t 131)), 9, [8, 6, 7]⟩, ⟨(some 133), .none, (.load 1 false (.t 132)), 10, [9, 8, 6, 7]⟩, ⟨(some 134), .none, (.call 21 [(.t 123), (.t 128), (.t 133)]), 11, [0, 5, 4, 3, 1, 2, 10, 9, 8, 6, 7]⟩, ⟨(some 122), .none, (.mov (.t 134)), 12, [11, 0, 5, 4, 3, 1, 2, 10, 9, 8, 6, 7]⟩, ⟨(some 135), .none, (.ext (.t 122) 0), 13, [12, 11, 0, 5, 4, 3, 1, 2, 10, 9, 8, 6, 7]⟩, ⟨(some 136), .none, (.ext (.t 122) 1), 14, [12, 11, 0, 5, 4, 3, 1, 2, 10, 9, 8, 6, 7]⟩, ⟨(some 15), .none, (.mov (.t 135)), 15, [13, 12, 11, 0, 5, 4, 3, 1, 2, 10, 9, 8, 6, 7]⟩, ⟨(some 16), .none, (.mov (.t 136)), 16, [14, 12, 11, 0, 5, 4, 3, 1, 2, 10, 9, 8, 6, 7, 15, 13]⟩]) (.seq (.reg false [⟨(some 137), .none, (.mov (.t 16)), 0, []⟩, ⟨(some 138), .none, (.un .not (.t 137)), 1, []⟩, ⟨(some 139), .none, (.mov (.t 138)), 2, []⟩, ⟨(some 140), (.some (139, false)), (.mov (.t 15)), 3, []⟩, ⟨(some 141), (.some (139, false)), (.mov (.t 3)), 4, []⟩, ⟨(some 142), (.some (139, false)), (.mov (.t 14)), 5, []⟩, ⟨(some 143), (.some (139, false)), (.iadr 3 (.t 141) (.t 142)), 6, []⟩, ⟨(some 144), (.some (139, false)), (.fadr 2 (.t 143)), 7, []⟩, ⟨(some 145), (.some (139, false)), (.load 1 false (.t 144)), 8, []⟩, ⟨(some 146), (.some (139, false)), (.bin .neq (.t 140) (.t 145)), 9, []⟩, ⟨(some 147), .none, (.pick (.t 139) (.c (.bool true)) (.t 146)), 10, []⟩]) (.cond (.t 147) (.seq (.reg false [⟨(some 2), .none, (.mov (.c (.bool false))), 0, []⟩]) .ret) .skip)))) (.reg false [⟨(some 120), .none, (.mov (.t 14)), 0, []⟩, ⟨(some 121), .none, (.bin .add (.t 120) (.c (.int .i64 1))), 1, []⟩, ⟨(some 14), .none, (.mov (.t 121)), 2, []⟩])))))) (.seq (.reg false [⟨(some 148), .none, (.mov (.t 6)), 0, []⟩, ⟨(some 149), .none, (.call 28 [(.t 148), (.c (.int .i64 1))]), 1, []⟩, ⟨(some 17), .none, (.mov (.t 149)), 2, []⟩]) (.seq (.reg false [⟨(some 151), .none, (.mov (.t 17)), 0, []⟩, ⟨(some 152), .none, (.mov (.t 4)), 1, []⟩, ⟨(some 153), .none, (.call 23 [(.t 151), (.t 152)]), 2, []⟩, ⟨(some 150), .none, (.mov (.t 153)), 3, []⟩, ⟨(some 154), .none, (.ext (.t 150) 0), 4, []⟩, ⟨(some 155), .none, (.ext (.t 150) 1), 5, []⟩, ⟨(some 18), .none, (.newV [(.int .i64 0), (.int .i64 0), (.int .i64 0)]), 6, []⟩, ⟨.none, .none, (.store 3 (.t 18) (.t 154)), 7, []⟩, ⟨(some 19), .none, (.mov (.t 155)), 8, []⟩]) (.seq (.reg false [⟨(some 156), .none, (.load 3 true (.t 18)), 0, []⟩, ⟨(some 157), .none, (.load 3 true (.t 12)), 1, []⟩, ⟨(some 158), .none, (.aeq false [0, 0, 0] (.t 156) (.t 157)), 2, []⟩, ⟨(some 159), .none, (.mov (.t 158)), 3, []⟩, ⟨(some 160), (.some (159, true)), (.mov (.t 19)), 4, []⟩, ⟨(some 161), (.some (159, true)), (.mov (.t 13)), 5, []⟩, ⟨(some 162), (.some (159, true)), (.beq false (.t 160) (.t 161)), 6, []⟩, ⟨(some 163), .none, (.pick (.t 159) (.t 162) (.c (.bool false))), 7, []⟩, ⟨(some 164), .none, (.mov (.t 163)), 8, []⟩, ⟨(some 165), (.some (164, true)), (.mov (.t 17)), 9, []⟩, ⟨(some 166), (.some (164, true)), (.call 16 [(.t 165)]), 10, []⟩, ⟨(some 167), .none, (.pick (.t 164) (.t 166) (.c (.bool false))), 11, []⟩, ⟨(some 168), .none, (.mov (.t 167)), 12, []⟩, ⟨(some 169), (.some (168, true)), (.mov (.t 6)), 13, []⟩, ⟨(some 170), (.some (168, true)), (.call 28 [(.t 169), (.c (.int .i64 20))]), 14, []⟩, ⟨(some 171), (.some (168, true)), (.lenS (.t 170)), 15, []⟩, ⟨(some 172), (.some (168, true)), (.mov (.t 6)), 16, []⟩, ⟨(some 173), (.some (168, true)), (.lenS (.t 172)), 17, []⟩, ⟨(some 174), (.some (168, true)), (.bin .eql (.t 171) (.t 173)), 18, []⟩, ⟨(some 175), .none, (.pick (.t 168) (.t 174) (.c (.bool false))), 19, []⟩, ⟨(some 176), .none, (.mov (.t 175)), 20, []⟩, ⟨(some 177), (.some (176, true)), (.mov (.t 6)), 21, []⟩, ⟨(some 178), (.some (176, true)), (.call 28 [(.t 177), (.c (.int .i64 0))]), 22, []⟩, ⟨(some 179), (.some (176, true)), (.lenS (.t 178)), 23, []⟩, ⟨(some 180), (.some (176, true)), (.bin .eql (.t 179) (.c (.int .i64 0))), 24, []⟩, ⟨(some 181), .none, (.pick (.t 176) (.t 180) (.c (.bool false))), 25, []⟩, ⟨(some 2), .none, (.mov (.t 181)), 26, []⟩]) .ret)))))))))))))), [(.t 2)]⟩
theorem k11 : EE.fns 11 = some c11 := by kernel_rfl
def c21 : CF := ⟨33, (.seq (.reg false [⟨(some 6), .none, (.mov (.c (.int .i64 0))), 0, []⟩, ⟨(some 7), .none, (.mov (.c (.bool false))), 1, []⟩]) (.seq (.seq (.reg false [⟨(some 10), .none, (.mov (.t 0)), 0, []⟩, ⟨(some 11), .none, (.lenS (.t 10)), 1, []⟩, ⟨(some 12), .none, (.mov (.c (.int .i64 0))), 2, []⟩]) (.block 0 (.loop (.seq (.reg false [⟨(some 13), .none, (.bin .lss (.t 12) (.t 11)), 0, []⟩]) (.seq (.cond (.t 13) .skip (.exit 0)) (.seq (.block 1 (.seq (.reg false [⟨(some 14), .none, (.iadr 3 (.t 10) (.t 12)), 0, []⟩, ⟨(some 15), .none, (.load 3 true (.t 14)), 1, []⟩, ⟨(some 9), .none, (.newV [(.int .i64 0), (.int .i64 0), (.int .i64 0)]), 2, []⟩, ⟨.none, .none, (.store 3 (.t 9) (.t 15)), 3, []⟩]) (.seq (.reg false [⟨(some 16), .none, (.fadr 0 (.t 9)), 0, []⟩, ⟨(some 17), .none, (.load 1 false (.t 16)), 1, []⟩, ⟨(some 18), .none, (.mov (.t 1)), 2, []⟩, ⟨(some 19), .none, (.bin .eql (.t 17) (.t 18)), 3, []⟩, ⟨(some 20), .none, (.mov (.t 19)), 4, []⟩, ⟨(some 21), (.some (20, true)), (.fadr 1 (.t 9)), 5, []⟩, ⟨(some 22), (.some (20, true)), (.load 1 false (.t 21)), 6, []⟩, ⟨(some 23), (.some (20, true)), (.mov (.t 2)), 7, []⟩, ⟨(some 24), (.some (20, true)), (.bin .eql (.t 22) (.t 23)), 8, []⟩, ⟨(some 25), .none, (.pick (.t 20) (.t 24) (.c (.bool false))), 9, []⟩, ⟨(some 26), .none, (.mov (.t 25)), 10, []⟩, ⟨(some 27), (.some (26, true)), (.mov (.t 0)), 11, []⟩, ⟨(some 28), (.some (26, true)), (.call 18 [(.t 27)]), 12, []⟩, ⟨(some 29), .none, (.pick (.t 26) (.t 28) (.c (.bool false))), 13, []⟩]) (.cond (.t 29) (.seq (.reg false [⟨(some 30), .none, (.fadr 2 (.t 9)), 0, []⟩, ⟨(some 31), .none, (.load 1 false (.t 30)), 1, []⟩, ⟨(some 6), .none, (.mov (.t 31)), 2, []⟩, ⟨(some 7), .none, (.mov (.c (.bool true))), 3, []⟩]) .ret) .skip)))) (.reg false [⟨(some 32), .none, (.bin .add (.t 12) (.c (.int .i64 1))), 0, []⟩, ⟨(some 12), .none, (.mov (.t 32)), 1, []⟩]))))))) (.seq (.reg false [⟨(some 6), .none, (.mov (.c (.int .i64 0))), 0, []⟩, ⟨(some 7), .none, (.mov (.c (.bool false))), 1, []⟩]) .ret))), [(.t 6), (.t 7)]⟩
theorem k21 : EE.fns 21 = some c21 := by kernel_rfl
def c22 : CF := ⟨33, (.seq (.reg false [⟨(some 4), .none, (.newV [(.int .i64 0), (.int .i64 0), (.int .i64 0)]), 0, []⟩, ⟨(some 5), .none, (.mov (.c (.bool false))), 1, []⟩]) (.seq (.reg false [⟨(some 9), .none, (.build [(.int .i64 0), (.int .i64 0), (.int .i64 0)] []), 0, []⟩, ⟨(some 6), .none, (.newV [(.int .i64 0), (.int .i64 0), (.int .i64 0)]), 1, []⟩, ⟨.none, .none, (.store 3 (.t 6) (.t 9)), 2, []⟩]) (.seq (.reg false [⟨(some 7), .none, (.mov (.c (.bool false))), 0, []⟩]) (.seq (.seq (.reg false [⟨(some 8), .none, (.mov (.c (.int .i64 0))), 0, []⟩]) (.block 0 (.loop (.seq (.seq (.reg false [⟨(some 10), .none, (.mov (.t 8)), 0, []⟩, ⟨(some 11), .none, (.mov (.t 0)), 1, []⟩, ⟨(some 12), .none, (.lenS (.t 11)), 2, []⟩, ⟨(some 13), .none, (.bin .lss (.t 10) (.t 12)), 3, []⟩, ⟨(some 14), .none, (.mov (.t 13)), 4, []⟩, ⟨(some 15), (.some (14, true)), (.mov (.t 0)), 5, []⟩, ⟨(some 16), (.some (14, true)), (.call 16 [(.t 15)]), 6, []⟩, ⟨(some 17), .none, (.pick (.t 14) (.t 16) (.c (.bool false))), 7, []⟩]) (.cond (.t 17) .skip (.exit 0))) (.seq (.block 1 (.seq (.reg false [⟨(some 20), .none, (.mov (.t 0)), 0, []⟩, ⟨(some 21), .none, (.mov (.t 8)), 1, []⟩, ⟨(some 22), .none, (.iadr 3 (.t 20) (.t 21)), 2, []⟩, ⟨(some 23), .none, (.fadr 0 (.t 22)), 3, []⟩, ⟨(some 24), .none, (.load 1 false (.t 23)), 4, []⟩, ⟨(some 25), .none, (.mov (.t 1)), 5, []⟩, ⟨(some 26), .none, (.bin .eql (.t 24) (.t 25)), 6, []⟩]) (.cond (.t 26) (.seq (.reg false [⟨(some 27), .none, (.mov (.t 0)), 0, []⟩, ⟨(some 28), .none, (.mov (.t 8)), 1, []⟩, ⟨(some 29), .none, (.iadr 3 (.t 27) (.t 28)), 2, []⟩, ⟨(some 30), .none, (.load 3 true (.t 29)), 3, []⟩, ⟨.none, .none, (.store 3 (.t 6) (.t 30)), 4, []⟩]) (.reg false [⟨(some 7), .none, (.mov (.c (.bool true))), 0, []⟩])) .skip))) (.reg false [⟨(some 18), .none, (.mov (.t 8)), 0, []⟩, ⟨(some 19), .none, (.bin .add (.t 18) (.c (.int .i64 1))), 1, []⟩, ⟨(some 8), .none, (.mov (.t 19)), 2, []⟩])))))) (.seq (.reg false [⟨(some 31), .none, (.load 3 true (.t 6)), 0, []⟩, ⟨(some 32), .none, (.mov (.t 7)), 1, []⟩, ⟨.none, .none, (.store 3 (.t 4) (.t 31)), 2, []⟩, ⟨(some 5), .none, (.mov (.t 32)), 3, []⟩]) .ret))))), [(.cell 4 3 true), (.t 5)]⟩
theorem k22 : EE.fns 22 = some c22 := by kernel_rfl
def c28 : CF := ⟨49, (.seq (.reg false [⟨(some 4), .none, (.mov (.c (.slice .none 0 0))), 0, []⟩]) (.seq (.reg false [⟨(some 11), .none, (.mkO 0 3 [(.int .i64 0), (.int .i64 0), (.int .i64 0)] []), 0, []⟩, ⟨(some 5), .none, (.mov (.t 11)), 1, []⟩]) (.seq (.seq (.reg false [⟨(some 12), .none, (.mov (.t 0)), 0, []⟩, ⟨(some 13), .none, (.call 18 [(.t 12)]), 1, []⟩, ⟨(some 14), .none, (.un .not (.t 13)), 2, []⟩]) (.cond (.t 14) (.seq (.reg false [⟨(some 15), .none, (.mov (.t 5)), 0, []⟩, ⟨(some 4), .none, (.mov (.t 15)), 1, []⟩]) .ret) .skip)) (.seq (.seq (.reg false [⟨(some 16), .none, (.mov (.t 0)), 0, []⟩, ⟨(some 17), .none, (.lenS (.t 16)), 1, []⟩, ⟨(some 18), .none, (.mov (.c (.int .i64 0))), 2, []⟩]) (.block 0 (.loop (.seq (.reg false [⟨(some 19), .none, (.bin .lss (.t 18) (.t 17)), 0, []⟩]) (.seq (.cond (.t 19) .skip (.exit 0)) (.seq (.block 1 (.seq (.reg false [⟨(some 20), .none, (.mov (.t 18)), 0, []⟩, ⟨(some 21), .none, (.iadr 3 (.t 16) (.t 18)), 1, []⟩, ⟨(some 22), .none, (.load 3 true (.t 21)), 2, []⟩, ⟨(some 7), .none, (.newV [(.int .i64 0), (.int .i64 0), (.int .i64 0)]), 3, []⟩, ⟨(some 6), .none, (.mov (.t 20)), 4, []⟩, ⟨.none, .none, (.store 3 (.t 7) (.t 22)), 5, []⟩]) (.seq (.reg false [⟨(some 8), .none, (.mov (.c (.int .i64 0))), 0, []⟩]) (.seq (.seq (.reg false [⟨(some 23), .none, (.mov (.t 0)), 0, []⟩, ⟨(some 24), .none, (.mov (.t 6)), 1, []⟩, ⟨(some 25), .none, (.bin .add (.t 24) (.c (.int .i64 1))), 2, []⟩, ⟨(some 26), .none, (.slc 3 (.t 23) (.some (.t 25)) .none), 3, []⟩, ⟨(some 27), .none, (.lenS (.t 26)), 4, []⟩, ⟨(some 28), .none, (.mov (.c (.int .i64 0))), 5, []⟩]) (.block 2 (.loop (.seq (.reg false [⟨(some 29), .none, (.bin .lss (.t 28) (.t 27)), 0, []⟩]) (.seq (.cond (.t 29) .skip (.exit 2)) (.seq (.block 3 (.seq (.reg false [⟨(some 30), .none, (.iadr 3 (.t 26) (.t 28)), 0, []⟩, ⟨(some 31), .none, (.load 3 true (.t 30)), 1, []⟩, ⟨(some 10), .none, (.newV [(.int .i64 0), (.int .i64 0), (.int .i64 0)]), 2, []⟩, ⟨.none, .none, (.store 3 (.t 10) (.t 31)), 3, []⟩]) (.seq (.reg false [⟨(some 32), .none, (.fadr 0 (.t 10)), 0, []⟩, ⟨(some 33), .none, (.load 1 false (.t 32)), 1, []⟩, ⟨(some 34), .none, (.fadr 0 (.t 7)), 2, []⟩, ⟨(some 35), .none, (.load 1 false (.t 34)), 3, []⟩, ⟨(some 36), .none, (.bin .eql (.t 33) (.t 35)), 4, []⟩]) (.cond (.t 36) (.reg false [⟨(some 37), .none, (.mov (.t 8)), 0, []⟩, ⟨(some 38), .none, (.bin .add (.t 37) (.c (.int .i64 1))), 1, []⟩, ⟨(some 8), .none, (.mov (.t 38)), 2, []⟩]) .skip)))) (.reg false [⟨(some 39), .none, (.bin .add (.t 28) (.c (.int .i64 1))), 0, []⟩, ⟨(some 28), .none, (.mov (.t 39)), 1, []⟩]))))))) (.seq (.reg false [⟨(some 40), .none, (.mov (.t 8)), 0, []⟩, ⟨(some 41), .none, (.mov (.t 1)), 1, []⟩, ⟨(some 42), .none, (.bin .lss (.t 40) (.t 41)), 2, []⟩]) (.cond (.t 42) (.reg false [⟨(some 43), .none, (.mov (.t 5)), 0, []⟩, ⟨(some 44), .none, (.load 3 true (.t 7)), 1, []⟩, ⟨(some 45), .none, (.mkV 1 3 [(.int .i64 0), (.int .i64 0), (.int .i64 0)] [(0, (.t 44))]), 2, []⟩, ⟨(some 46), .none, (.app 3 24 (.t 43) (.t 45)), 3, []⟩, ⟨(some 5), .none, (.mov (.t 46)), 4, []⟩]) .skip)))))) (.reg false [⟨(some 47), .none, (.bin .add (.t 18) (.c (.int .i64 1))), 0, []⟩, ⟨(some 18), .none, (.mov (.t 47)), 1, []⟩]))))))) (.seq (.reg false [⟨(some 48), .none, (.mov (.t 5)), 0, []⟩, ⟨(some 4), .none, (.mov (.t 48)), 1, []⟩]) .ret))))), [(.t 4)]⟩
theorem k28 : EE.fns 28 = some c28 := by kernel_rfl
def c38 : CF := ⟨20, (.seq (.reg false [⟨(some 2), .none, (.mov (.c (.slice .none 0 0))), 0, []⟩, ⟨(some 3), .none, (.mov (.c (.int .i64 0))), 1, []⟩, ⟨(some 4), .none, (.mov (.c (.int .i64 0))), 2, []⟩]) (.seq (.reg false [⟨(some 8), .none, (.mov (.t 0)), 0, []⟩, ⟨(some 9), .none, (.call 64 [(.t 8)]), 1, []⟩, ⟨(some 5), .none, (.mov (.t 9)), 2, []⟩]) (.seq (.reg false [⟨(some 10), .none, (.mov (.t 5)), 0, []⟩, ⟨(some 11), .none, (.mkO 7 1 [(.int .i64 0)] [(0, (.c (.int .i64 0))), (1, (.c (.int .i64 1))), (2, (.c (.int .i64 2))), (3, (.c (.int .i64 3))), (4, (.c (.int .i64 99))), (5, (.c (.int .i64 100))), (6, (.c (.int .i64 (-1))))]), 1, []⟩, ⟨(some 12), .none, (.call 71 [(.t 10), (.t 11)]), 2, []⟩, ⟨(some 6), .none, (.mov (.t 12)), 3, []⟩]) (.seq (.reg false [⟨(some 13), .none, (.mov (.t 5)), 0, []⟩, ⟨(some 14), .none, (.mkO 6 1 [(.int .i64 0)] [(0, (.c (.int .i64 6))), (1, (.c (.int .i64 50))), (2, (.c (.int .i64 51))), (3, (.c (.int .i64 0))), (4, (.c (.int .i64 1000000))), (5, (.c (.int .i64 1000001)))]), 1, []⟩, ⟨(some 15), .none, (.call 71 [(.t 13), (.t 14)]), 2, []⟩, ⟨(some 7), .none, (.mov (.t 15)), 3, []⟩]) (.seq (.reg false [⟨(some 16), .none, (.mov (.t 5)), 0, []⟩, ⟨(some 17), .none, (.call 65 [(.t 16)]), 1, []⟩, ⟨(some 18), .none, (.mov (.t 6)), 2, []⟩, ⟨(some 19), .none, (.mov (.t 7)), 3, []⟩, ⟨(some 2), .none, (.mov (.t 17)), 4, []⟩, ⟨(some 3), .none, (.mov (.t 18)), 5, []⟩, ⟨(some 4), .none, (.mov (.t 19)), 6, []⟩]) .ret))))), [(.t 2), (.t 3), (.t 4)]⟩
theorem k38 : EE.fns 38 = some c38 := by kernel_rfl
end Go.Proofs.Ytjepmnmakemfoaa.Ev

/- The draw of a table, one who and a key. -/
namespace Go.Proofs.Ytjepmnmakemfoaa.Ev
set_option linter.all false
open Go
set_option maxRecDepth 4000

theorem zeros_6 (z : List Value) : zeros 6 z = z ++ (z ++ (z ++ (z ++ (z ++ z)))) := by simp [zeros, List.replicate_succ]
theorem zeros_7 (z : List Value) : zeros 7 z = z ++ (z ++ (z ++ (z ++ (z ++ (z ++ z))))) := by simp [zeros, List.replicate_succ]
theorem f38 {m : Md} {H : Hp} {v : Value} {cl : List Int} (hv : SlU H v cl) (hw : Wr m H) : Fun EE m 38 [v] H fun r H' => ∃ u l w k, r = .tuple #[u, .int .i64 w, .int .i64 k] ∧ FreshS eRw 3 H u H' l ∧ l.length ≤ 20 := by
  refine fun_f rfl rfl k38 (by simp [c38]) ?_
  simp only [go_sem, ↓reduceIte, Nat.reduceEqDiff, reduceCtorEq, Nat.reduceAdd, Nat.reduceLeDiff, Nat.reduceMul, c38]
  refine callD (f64 hv) rfl fun r H1 ⟨c1, p1, n1⟩ => ?_
  have w1 := hw.pre p1
  have wid := hw H.length (Nat.le_refl _)
  have hl3 := sl_ints (H := H1) [0, 1, 2, 3, 99, 100, -1] (by simp)
  have pn := List.prefix_append H1 [[(0 : Int), 1, 2, 3, 99, 100, -1].map (Value.int .i64)]
  have cn := CX.ofPre c1 pn
  have hlt := c1.lt
  simp only [go_sem, ↓reduceIte, Nat.reduceEqDiff, reduceCtorEq, Nat.reduceAdd, Nat.reduceLeDiff, Nat.reduceMul, fillL, zeros_6, zeros_7]
  refine callD (f71 cn.1 wid hl3 (by simp) (by simp [idsOf]; omega)) rfl fun r H2 ⟨y, _, e, cs2⟩ => ?_
  subst e
  have c2 := cn.trans cs2.cx
  have hl4 := sl_ints (H := H2) [6, 50, 51, 0, 1000000, 1000001] (by simp)
  have pn2 := List.prefix_append H2 [[(6 : Int), 50, 51, 0, 1000000, 1000001].map (Value.int .i64)]
  have cn2 := CX.ofPre c2.1 pn2
  have hlt2 := c2.1.lt
  simp only [go_sem, ↓reduceIte, Nat.reduceEqDiff, reduceCtorEq, Nat.reduceAdd, Nat.reduceLeDiff, Nat.reduceMul, fillL, zeros_6, zeros_7]
  refine callD (f71 cn2.1 wid hl4 (by simp) (by simp [idsOf]; omega)) rfl fun r H3 ⟨z, _, e, cs3⟩ => ?_
  subst e
  have c3 := c2.trans (cn2.trans cs3.cx)
  have p3 := c3.pre p1 (Nat.le_refl _)
  simp only [go_sem, ↓reduceIte, Nat.reduceEqDiff, reduceCtorEq, Nat.reduceAdd, Nat.reduceLeDiff, Nat.reduceMul]
  refine callD (f65 c3.1 (hw.pre p3) wid) rfl fun u H4 ⟨l, s4, o4, c4, hl⟩ => ?_
  simp only [go_sem, ↓reduceIte, Nat.reduceEqDiff, reduceCtorEq, Nat.reduceAdd, Nat.reduceLeDiff, Nat.reduceMul]
  exact ⟨u, l, y, z, rfl, ⟨(c3.trans c4).pre p1 (Nat.le_refl _), s4, o4.mono (by have := p3.length_le; omega)⟩, hl⟩
end Go.Proofs.Ytjepmnmakemfoaa.Ev

/- A row found by who and version: the program's way, in a right table. -/
namespace Go.Proofs.Ytjepmnmakemfoaa.Ev
set_option linter.all false
open Go
set_option maxRecDepth 4000

def FindR (l : List Rw) (w n : Int) (r : Value) : Prop := (∃ z ∈ l, z.1 = w ∧ z.2.1 = n ∧ r = .tuple #[.int .i64 z.2.2, .bool true]) ∨ ((∀ z ∈ l, ¬ (z.1 = w ∧ z.2.1 = n)) ∧ r = .tuple #[.int .i64 0, .bool false])
theorem f21 {H : Hp} {v : Value} {l : List Rw} {w n : Int} (hl : SlRw H v l) (hB : tbOk l = true) : ScalP EE 21 [v, .int .i64 w, .int .i64 n] H (FindR l w n) := by
  refine scalP_ok rfl rfl k21 (by simp [c21]) fun m hw => ?_
  have hroom := hl.room
  have a18 := fun {m draw t d ts Q} => callT_at (m := m) (draw := draw) (s := t) (d := d) (ts := ts) (Q := Q) (f18 hl)
  rw [hB] at a18
  simp only [go_sem, ↓reduceIte, Nat.reduceEqDiff, reduceCtorEq, Nat.reduceAdd, Nat.reduceLeDiff, Nat.reduceMul, c21, hl.len]
  refine go_for l.length (fun i s => s.H = H ∧ s.ρ 0 = .val v ∧ s.ρ 1 = .val (.int .i64 w) ∧ s.ρ 2 = .val (.int .i64 n) ∧ s.ρ 10 = .val v ∧ s.ρ 11 = .val (.int .i64 l.length) ∧ s.ρ 12 = .val (.int .i64 i) ∧ ∀ j, (h : j < l.length) → j < i → ¬ (l[j].1 = w ∧ l[j].2.1 = n))
    (fun s => s.H = H ∧ ∀ j, (h : j < l.length) → ¬ (l[j].1 = w ∧ l[j].2.1 = n)) ?_ ?_ ?_
  · exact ⟨rfl, by simp [upd, ini], by simp [upd, ini], by simp [upd, ini], by simp [upd], by simp [upd], by simp [upd], fun j h hj => by omega⟩
  · rintro i s hi ⟨hH, k0, k1, k2, k10, k11, k12, hn⟩
    simp only [go_sem, ↓reduceIte, Nat.reduceEqDiff, reduceCtorEq, Nat.reduceAdd, Nat.reduceLeDiff, Nat.reduceMul, k0, k1, k2, k10, k11, k12]
    refine brT.intro (fun q1 => ?_) (fun q1 => ?_) <;> simp only [go_sem, ↓reduceIte, Nat.reduceEqDiff, reduceCtorEq, Nat.reduceAdd, Nat.reduceLeDiff, Nat.reduceMul, k0, k1, k2, k10, k11, k12]
    rotate_left
    · have := of_decide_eq_false q1
      exact ⟨hH, fun j h => hn j h (by omega)⟩
    have hil : i < l.length := by have := of_decide_eq_true q1; omega
    obtain ⟨id2, p, o, ho, hr, hp, hia⟩ := hl.elem (List.getElem?_eq_getElem hil)
    have hr : (o.drop p).take 3 = eRw l[i] := hr
    unfold eRw at hr
    have w1 := wrap64 ((i : Int) + 1) (by omega) (by omega)
    have next : ¬ (l[i].1 = w ∧ l[i].2.1 = n) → ∀ j, (h : j < l.length) → j < i + 1 → ¬ (l[j].1 = w ∧ l[j].2.1 = n) := fun h1 j h hj => by
      by_cases e : j = i
      · subst e; exact h1
      · exact hn j h (by omega)
    simp only [go_sem, ↓reduceIte, Nat.reduceEqDiff, reduceCtorEq, Nat.reduceAdd, Nat.reduceLeDiff, Nat.reduceMul, k0, k1, k2, k10, k11, k12, hia, hH, ho, hr, hp]
    cases q2 : decide (l[i].1 = w) <;> simp only [go_sem, ↓reduceIte, Nat.reduceEqDiff, reduceCtorEq, Nat.reduceAdd, Nat.reduceLeDiff, Nat.reduceMul, k0, k1, k2, k10, k11, k12, q2, w1]
    · exact ⟨hil, by simp, next (fun h => of_decide_eq_false q2 h.1)⟩
    cases q3 : decide (l[i].2.1 = n) <;> simp only [go_sem, ↓reduceIte, Nat.reduceEqDiff, reduceCtorEq, Nat.reduceAdd, Nat.reduceLeDiff, Nat.reduceMul, k0, k1, k2, k10, k11, k12, q3, w1, a18, hw, hH]
    · exact ⟨hil, by simp, next (fun h => of_decide_eq_false q3 h.2)⟩
    · have hF : FindR l w n (.tuple #[.int .i64 l[i].2.2, .bool true]) := .inl ⟨l[i], List.getElem_mem hil, of_decide_eq_true q2, of_decide_eq_true q3, rfl⟩
      first | exact hF | exact ⟨hF, rfl⟩ | exact ⟨rfl, hF⟩ | (refine ⟨?_, hF⟩; simp) | (refine ⟨hF, ?_⟩; simp)
  · rintro s ⟨hH, hn⟩
    simp only [go_sem, ↓reduceIte, Nat.reduceEqDiff, reduceCtorEq, Nat.reduceAdd, Nat.reduceLeDiff, Nat.reduceMul, hH]
    have hF : FindR l w n (.tuple #[.int .i64 0, .bool false]) := .inr ⟨fun z hz => by
      obtain ⟨j, hj, rfl⟩ := List.mem_iff_getElem.1 hz
      exact hn j hj, rfl⟩
    first | exact hF | exact ⟨hF, rfl⟩ | exact ⟨rfl, hF⟩ | (refine ⟨?_, hF⟩; simp) | (refine ⟨hF, ?_⟩; simp)
end Go.Proofs.Ytjepmnmakemfoaa.Ev

/- The reference's way to the row that counts; rows kept; what is kept, in plain words. -/
namespace Go.Proofs.Ytjepmnmakemfoaa.Ev
set_option linter.all false
open Go
set_option maxRecDepth 4000

theorem f22 {H : Hp} {v : Value} {l : List Rw} {w : Int} (hl : SlRw H v l) (hB : tbOk l = true) : Scal EE 22 [v, .int .i64 w] H (.tuple #[vRw (nowR l w), .bool (hasW l w)]) := by
  refine scal_ok rfl rfl k22 (by simp [c22]) rfl fun m hw => ?_
  have hroom := hl.room
  have a16 := fun {m draw t d ts Q} => callT_at (m := m) (draw := draw) (s := t) (d := d) (ts := ts) (Q := Q) (f16 hl)
  rw [hB] at a16
  unfold vRw
  simp only [go_sem, ↓reduceIte, Nat.reduceEqDiff, reduceCtorEq, Nat.reduceAdd, Nat.reduceLeDiff, Nat.reduceMul, c22, hl.len, buildK, fillL, exps]
  refine go_for l.length (fun i s => s.H = H ∧ s.ρ 0 = .val v ∧ s.ρ 1 = .val (.int .i64 w) ∧ s.ρ 4 = .bx 0 [.int .i64 0, .int .i64 0, .int .i64 0] ∧ s.ρ 6 = .bx 1 (eRw (nowR (l.take i) w)) ∧ s.ρ 7 = .val (.bool (hasW (l.take i) w)) ∧ s.ρ 8 = .val (.int .i64 i))
    (fun s => s.H = H ∧ s.ρ 4 = .bx 0 [.int .i64 0, .int .i64 0, .int .i64 0] ∧ s.ρ 6 = .bx 1 (eRw (nowR l w)) ∧ s.ρ 7 = .val (.bool (hasW l w))) ?_ ?_ ?_
  · exact ⟨rfl, by simp [upd, ini], by simp [upd, ini], by simp [upd], by simp [upd, nowR, eRw], by simp [upd, hasW], by simp [upd]⟩
  · rintro i s hi ⟨hH, k0, k1, k4, k6, k7, k8⟩
    unfold eRw at k6
    simp only [go_sem, ↓reduceIte, Nat.reduceEqDiff, reduceCtorEq, Nat.reduceAdd, Nat.reduceLeDiff, Nat.reduceMul, k0, k1, k4, k6, k7, k8, hl.len]
    cases q1 : decide ((i : Int) < (l.length : Int)) <;> simp only [go_sem, ↓reduceIte, Nat.reduceEqDiff, reduceCtorEq, Nat.reduceAdd, Nat.reduceLeDiff, Nat.reduceMul, k0, k1, k4, k6, k7, k8, q1, a16, hw, hH]
    · have : i = l.length := by have := of_decide_eq_false q1; omega
      subst this
      exact ⟨by rw [List.take_length]; rfl, by rw [List.take_length]⟩
    · have hil : i < l.length := by have := of_decide_eq_true q1; omega
      obtain ⟨id2, p, o, ho, hr, hp, hia⟩ := hl.elem (List.getElem?_eq_getElem hil)
      have hr : (o.drop p).take 3 = eRw l[i] := hr
      have g0 : o[p]? = some (.int .i64 l[i].1) := by simpa [eRw] using getElem?_of_take hr (j := 0) (by omega)
      unfold eRw at hr
      have hs := nowR_succ (w := w) hil
      have w1 := wrap64 ((i : Int) + 1) (by omega) (by omega)
      simp only [go_sem, ↓reduceIte, Nat.reduceEqDiff, reduceCtorEq, Nat.reduceAdd, Nat.reduceLeDiff, Nat.reduceMul, k0, k1, k4, k6, k7, k8, hia, hH, ho, g0]
      cases q2 : decide (l[i].1 = w) <;> simp only [go_sem, ↓reduceIte, Nat.reduceEqDiff, reduceCtorEq, Nat.reduceAdd, Nat.reduceLeDiff, Nat.reduceMul, k0, k1, k4, k6, k7, k8, q2, hia, hH, ho, hr, hp, w1]
      · have q2' := of_decide_eq_false q2
        rw [if_neg q2', if_neg q2'] at hs
        refine ⟨hil, by rw [hs.1]; rfl, by rw [hs.2], by simp⟩
      · have q2' := of_decide_eq_true q2
        rw [if_pos q2', if_pos q2'] at hs
        refine ⟨hil, by rw [hs.1]; rfl, by rw [hs.2], by simp⟩
  · rintro s ⟨hH, k4, k6, k7⟩
    unfold eRw at k6
    simp only [go_sem, ↓reduceIte, Nat.reduceEqDiff, reduceCtorEq, Nat.reduceAdd, Nat.reduceLeDiff, Nat.reduceMul, hH, k4, k6, k7]

/-- How many rows of one. -/
def lat (w : Int) (l : List Rw) : Nat := l.countP fun z => decide (z.1 = w)
def keepR (n : Int) : List Rw → List Rw
  | [] => []
  | z :: l => if (lat z.1 l : Int) < n then z :: keepR n l else keepR n l
theorem lat_le (w : Int) (l : List Rw) : lat w l ≤ l.length := List.countP_le_length
theorem drop_at {l : List Rw} {i : Nat} (h : i < l.length) : l.drop i = l[i] :: l.drop (i + 1) := List.drop_eq_getElem_cons h
theorem lat_succ {w : Int} {l : List Rw} {j : Nat} (h : j < l.length) : lat w (l.take (j + 1)) = lat w (l.take j) + (if l[j].1 = w then 1 else 0) := by
  unfold lat
  rw [List.take_succ_eq_append_getElem h, List.countP_append]
  congr 1
  by_cases e : l[j].1 = w <;> simp [e]

theorem f28 {m : Md} {H : Hp} {v : Value} {l : List Rw} {n : Int} (hl : SlRw H v l) (hB : tbOk l = true) (hw : Wr m H) : Fun EE m 28 [v, .int .i64 n] H fun r H' => FreshS eRw 3 H r H' (keepR n l) := by
  refine fun_f rfl rfl k28 (by simp [c28]) ?_
  have hroom := hl.room
  have h20 := (tbOk_t.1 hB).1
  have p0 : H <+: H ++ [[]] := List.prefix_append _ _
  have s0 : SlRw (H ++ [[]]) (.slice (some ⟨H.length, 0, some 3⟩) 0 (0 * 3)) [] := own_newR
  have o0 : OwnS H.length (.slice (some ⟨H.length, 0, some 3⟩) 0 (0 * 3)) := .inr ⟨_, _, _, _, rfl, Nat.le_refl _⟩
  generalize hwv : Value.slice (some ⟨H.length, 0, some 3⟩) 0 (0 * 3) = wv0 at s0 o0
  have hl0 := hl.pre p0
  have a18 := fun {m draw t d ts Q} => callT_at (m := m) (draw := draw) (s := t) (d := d) (ts := ts) (Q := Q) (f18 hl0)
  rw [hB] at a18
  simp only [go_sem, ↓reduceIte, Nat.reduceEqDiff, reduceCtorEq, Nat.reduceAdd, Nat.reduceLeDiff, Nat.reduceMul, c28, fillL, hwv, a18, hw.pre p0, hl0.len]
  refine go_for l.length (fun i s => H <+: s.H ∧ s.ρ 0 = .val v ∧ s.ρ 1 = .val (.int .i64 n) ∧ s.ρ 4 = .val (.slice none 0 0) ∧ s.ρ 16 = .val v ∧ s.ρ 17 = .val (.int .i64 l.length) ∧ s.ρ 18 = .val (.int .i64 i) ∧ ∃ wv l', s.ρ 5 = .val wv ∧ SlRw s.H wv l' ∧ OwnS H.length wv ∧ l'.length ≤ i ∧ l' ++ keepR n (l.drop i) = keepR n l)
    (fun s => H <+: s.H ∧ s.ρ 4 = .val (.slice none 0 0) ∧ ∃ wv, s.ρ 5 = .val wv ∧ SlRw s.H wv (keepR n l) ∧ OwnS H.length wv) ?_ ?_ ?_
  · exact ⟨p0, by simp [upd, ini], by simp [upd, ini], by simp [upd], by simp [upd], by simp [upd], by simp [upd], wv0, [], by simp [upd], s0, o0, by simp, by simp⟩
  · rintro i s hi ⟨kH, k0, k1, k4, k16, k17, k18, wv, l', k5, ks, ko, kl, ke⟩
    have kv := hl.pre kH
    simp only [go_sem, ↓reduceIte, Nat.reduceEqDiff, reduceCtorEq, Nat.reduceAdd, Nat.reduceLeDiff, Nat.reduceMul, k0, k1, k4, k5, k16, k17, k18]
    cases q1 : decide ((i : Int) < (l.length : Int)) <;> simp only [go_sem, ↓reduceIte, Nat.reduceEqDiff, reduceCtorEq, Nat.reduceAdd, Nat.reduceLeDiff, Nat.reduceMul, k0, k1, k4, k5, k16, k17, k18, q1]
    · have : i = l.length := by have := of_decide_eq_false q1; omega
      subst this
      rw [List.drop_length] at ke
      simp only [keepR, List.append_nil] at ke
      subst ke
      exact ⟨kH, wv, rfl, ks, ko⟩
    have hil : i < l.length := by have := of_decide_eq_true q1; omega
    have w1 := wrap64 ((i : Int) + 1) (by omega) (by omega)
    obtain ⟨id, p, o, ho, hr, hp, hia⟩ := kv.elem (List.getElem?_eq_getElem hil)
    have hr : (o.drop p).take 3 = eRw l[i] := hr
    obtain ⟨dv, hd1, _, hd3⟩ := kv.drop (i := i + 1) (by omega)
    have hd2 := hd3 s.H l rfl kv
    unfold eRw at hr
    have hcast : (((i + 1 : Nat) : Int)) = (i : Int) + 1 := by omega
    rw [hcast] at hd1
    rw [drop_at hil] at ke
    have ke : l' ++ (if (lat l[i].1 (l.drop (i + 1)) : Int) < n then l[i] :: keepR n (l.drop (i + 1)) else keepR n (l.drop (i + 1))) = keepR n l := ke
    generalize hD : l.drop (i + 1) = D at hd2 ke
    have hDl : D.length ≤ 20 := by rw [← hD, List.length_drop]; omega
    simp only [go_sem, ↓reduceIte, Nat.reduceEqDiff, reduceCtorEq, Nat.reduceAdd, Nat.reduceLeDiff, Nat.reduceMul, k0, k1, k4, k5, k16, k17, k18, hia, ho, hr, hp, w1]
    rw [hd1 _ _ _ (by simp only [go_sem, ↓reduceIte, Nat.reduceEqDiff, reduceCtorEq, Nat.reduceAdd, Nat.reduceLeDiff, Nat.reduceMul, k0]) (by simp only [go_sem, ↓reduceIte, Nat.reduceEqDiff, reduceCtorEq, Nat.reduceAdd, Nat.reduceLeDiff, Nat.reduceMul])]
    simp only [go_sem, ↓reduceIte, Nat.reduceEqDiff, reduceCtorEq, Nat.reduceAdd, Nat.reduceLeDiff, Nat.reduceMul, hd2.len]
    refine go_for D.length (fun j t => t.H = s.H ∧ t.ρ 0 = .val v ∧ t.ρ 1 = .val (.int .i64 n) ∧ t.ρ 4 = .val (.slice none 0 0) ∧ t.ρ 5 = .val wv ∧ t.ρ 16 = .val v ∧ t.ρ 17 = .val (.int .i64 l.length) ∧ t.ρ 18 = .val (.int .i64 i) ∧ t.ρ 7 = .bx s.gn (eRw l[i]) ∧ t.ρ 8 = .val (.int .i64 (lat l[i].1 (D.take j) : Int)) ∧ t.ρ 26 = .val dv ∧ t.ρ 27 = .val (.int .i64 D.length) ∧ t.ρ 28 = .val (.int .i64 j))
      (fun t => t.H = s.H ∧ t.ρ 0 = .val v ∧ t.ρ 1 = .val (.int .i64 n) ∧ t.ρ 4 = .val (.slice none 0 0) ∧ t.ρ 5 = .val wv ∧ t.ρ 16 = .val v ∧ t.ρ 17 = .val (.int .i64 l.length) ∧ t.ρ 18 = .val (.int .i64 i) ∧ t.ρ 7 = .bx s.gn (eRw l[i]) ∧ t.ρ 8 = .val (.int .i64 (lat l[i].1 D : Int))) ?_ ?_ ?_
    · exact ⟨rfl, by simp [upd, k0], by simp [upd, k1], by simp [upd, k4], by simp [upd, k5], by simp [upd, k16], by simp [upd, k17], by simp [upd, k18], by simp [upd, eRw], by simp [upd, lat], by simp [upd], by simp [upd], by simp [upd]⟩
    · rintro j t hj ⟨tH, t0, t1, t4, t5, t16, t17, t18, t7, t8, t26, t27, t28⟩
      unfold eRw at t7
      simp only [go_sem, ↓reduceIte, Nat.reduceEqDiff, reduceCtorEq, Nat.reduceAdd, Nat.reduceLeDiff, Nat.reduceMul, t0, t1, t4, t5, t16, t17, t18, t7, t8, t26, t27, t28]
      cases q3 : decide ((j : Int) < (D.length : Int)) <;> simp only [go_sem, ↓reduceIte, Nat.reduceEqDiff, reduceCtorEq, Nat.reduceAdd, Nat.reduceLeDiff, Nat.reduceMul, t0, t1, t4, t5, t16, t17, t18, t7, t8, t26, t27, t28, q3]
      · have : j = D.length := by have := of_decide_eq_false q3; omega
        subst this
        exact ⟨tH, by rfl, by rw [List.take_length]⟩
      · have hjl : j < D.length := by have := of_decide_eq_true q3; omega
        obtain ⟨id', p', o', ho', hr', hpp', hia'⟩ := hd2.elem (List.getElem?_eq_getElem hjl)
        have hr' : (o'.drop p').take 3 = eRw D[j] := hr'
        unfold eRw at hr'
        have w2 := wrap64 ((j : Int) + 1) (by omega) (by omega)
        have hle := lat_le l[i].1 (D.take j)
        rw [List.length_take] at hle
        have w3 := wrap64 ((lat l[i].1 (D.take j) : Int) + 1) (by omega) (by omega)
        have hsu := lat_succ (w := l[i].1) hjl
        simp only [go_sem, ↓reduceIte, Nat.reduceEqDiff, reduceCtorEq, Nat.reduceAdd, Nat.reduceLeDiff, Nat.reduceMul, t0, t1, t4, t5, t16, t17, t18, t7, t8, t26, t27, t28, hia', tH, ho', hr', hpp']
        cases q4 : decide (D[j].1 = l[i].1) <;> simp only [go_sem, ↓reduceIte, Nat.reduceEqDiff, reduceCtorEq, Nat.reduceAdd, Nat.reduceLeDiff, Nat.reduceMul, t0, t1, t4, t5, t16, t17, t18, t7, t8, t26, t27, t28, q4, w2, w3]
        · have q4' := of_decide_eq_false q4
          rw [if_neg q4'] at hsu
          exact ⟨hjl, by rfl, by rw [hsu]; rfl, by simp⟩
        · have q4' := of_decide_eq_true q4
          rw [if_pos q4'] at hsu
          exact ⟨hjl, by rfl, by rw [hsu]; simp, by simp⟩
    · rintro t ⟨tH, t0, t1, t4, t5, t16, t17, t18, t7, t8⟩
      unfold eRw at t7
      simp only [go_sem, ↓reduceIte, Nat.reduceEqDiff, reduceCtorEq, Nat.reduceAdd, Nat.reduceLeDiff, Nat.reduceMul, t0, t1, t4, t5, t16, t17, t18, t7, t8]
      cases q5 : decide ((lat l[i].1 D : Int) < n) <;> simp only [go_sem, ↓reduceIte, Nat.reduceEqDiff, reduceCtorEq, Nat.reduceAdd, Nat.reduceLeDiff, Nat.reduceMul, t0, t1, t4, t5, t16, t17, t18, t7, t8, w1, q5]
      · have q5' := of_decide_eq_false q5
        rw [if_neg q5'] at ke
        exact ⟨hil, by rw [tH]; exact kH, by simp, wv, l', rfl, by rw [tH]; exact ks, ko, by omega, ke⟩
      · have q5' := of_decide_eq_true q5
        rw [if_pos q5'] at ke
        obtain ⟨v5, H5, e1, e2, e3, e4, e5, e6, e7⟩ := ks.oneRw (m := m) l[i] ko kH.length_le hw (by omega)
        unfold eRw at e1
        rw [e1]
        rotate_left
        · exact tH
        · rfl
        · rfl
        simp only [go_sem, ↓reduceIte, Nat.reduceEqDiff, reduceCtorEq, Nat.reduceAdd, Nat.reduceLeDiff, Nat.reduceMul, t0, t1, t4, t5, t16, t17, t18, w1]
        exact ⟨hil, e7 H (Nat.le_refl _) kH, by simp, v5, _, rfl, e2, e3, by simp; omega, by rw [List.append_assoc]; exact ke⟩
  · rintro s ⟨kH, k4, wv, k5, ks, ko⟩
    simp only [go_sem, ↓reduceIte, Nat.reduceEqDiff, reduceCtorEq, Nat.reduceAdd, Nat.reduceLeDiff, Nat.reduceMul, k4, k5]
    exact ⟨kH, ks, ko⟩
end Go.Proofs.Ytjepmnmakemfoaa.Ev

/- What stands in a table after a row more; what is kept of it. -/
namespace Go.Proofs.Ytjepmnmakemfoaa.Ev
set_option linter.all false
open Go
set_option maxRecDepth 4000

theorem tb_of {l : List Rw} (h20 : l.length ≤ 20) (hk : ∀ x ∈ l, rowOkB x = true) (hp : l.Pairwise ltR) (hn : (keysR l).Nodup) : TbOk l := by
  refine ⟨h20, fun i hi => (rowAt_at hi).2 ⟨hk _ (List.getElem_mem hi), fun h0 => List.pairwise_iff_getElem.1 hp _ _ _ _ (by omega), fun hm => ?_⟩⟩
  obtain ⟨z, hz, e⟩ := List.mem_map.1 hm
  obtain ⟨j, hj, rfl⟩ := List.mem_iff_getElem.1 hz
  rw [List.length_take] at hj
  rw [List.getElem_take] at e
  unfold keysR List.Nodup at hn
  have := List.pairwise_iff_getElem.1 hn j i (by simp; omega) (by simp; omega) (by omega)
  simp only [List.getElem_map] at this
  exact this e
theorem tb_nodup {l : List Rw} (h : TbOk l) : (keysR l).Nodup := by
  unfold keysR List.Nodup
  refine List.pairwise_iff_getElem.2 fun i j hi hj hij => ?_
  simp only [List.length_map] at hi hj
  simp only [List.getElem_map]
  intro e
  have h1 := ((rowAt_at hj).1 (h.2 j hj)).2.2
  have h2 := keys_at (l := l) hij (by omega)
  rw [e] at h2
  exact h1 h2
theorem keepR_sub (n : Int) : ∀ l, (keepR n l).Sublist l
  | [] => List.Sublist.refl _
  | z :: l => by
    unfold keepR
    split
    · exact (keepR_sub n l).cons_cons z
    · exact (keepR_sub n l).cons z
theorem tb_sub {l l' : List Rw} (h : TbOk l) (hs : l'.Sublist l) : TbOk l' :=
  tb_of (Nat.le_trans hs.length_le h.1) (fun x hx => tb_row h (hs.subset hx)) ((tb_pairwise h).sublist hs) ((hs.map _).nodup (tb_nodup h))
theorem keepR_all : ∀ {l : List Rw}, l.length ≤ 20 → keepR 20 l = l
  | [], _ => rfl
  | z :: l, h => by
    have := lat_le z.1 l
    simp only [List.length_cons] at h
    unfold keepR
    rw [if_pos (by omega), keepR_all (by omega)]
theorem keepR_none : ∀ l : List Rw, keepR 0 l = []
  | [] => rfl
  | z :: l => by
    unfold keepR
    rw [if_neg (by omega), keepR_none l]
theorem tb_inj {l : List Rw} (hp : l.Pairwise ltR) {x y : Rw} (hx : x ∈ l) (hy : y ∈ l) (h1 : x.1 = y.1) (h2 : x.2.1 = y.2.1) : x = y := by
  obtain ⟨i, hi, rfl⟩ := List.mem_iff_getElem.1 hx
  obtain ⟨j, hj, rfl⟩ := List.mem_iff_getElem.1 hy
  rcases Nat.lt_trichotomy i j with h | h | h
  · have := List.pairwise_iff_getElem.1 hp i j hi hj h
    unfold ltR at this
    omega
  · subst h; rfl
  · have := List.pairwise_iff_getElem.1 hp j i hj hi h
    unfold ltR at this
    omega
section
variable {w : Int}
abbrev nowF (w : Int) (r : Rw) (l : List Rw) : Rw := l.foldl (fun r z => if z.1 = w then z else r) r
abbrev hasF (w : Int) (b : Bool) (l : List Rw) : Bool := l.foldl (fun b z => if z.1 = w then true else b) b
theorem nowF_none {l : List Rw} : ∀ {r : Rw} {b : Bool}, (∀ x ∈ l, x.1 ≠ w) → nowF w r l = r ∧ hasF w b l = b := by
  induction l with
  | nil => intro r b _; exact ⟨rfl, rfl⟩
  | cons z l ih =>
    intro r b h
    have hz := h z (by simp)
    have := ih (r := r) (b := b) fun x hx => h x (List.mem_cons_of_mem _ hx)
    simp only [nowF, hasF, List.foldl_cons, if_neg hz]
    exact this
theorem nowF_some {l : List Rw} : ∀ {r r' : Rw} {b b' : Bool}, (∃ x ∈ l, x.1 = w) → nowF w r l = nowF w r' l ∧ hasF w b l = hasF w b' l := by
  induction l with
  | nil => rintro r r' b b' ⟨x, hx, _⟩; cases hx
  | cons z l ih =>
    rintro r r' b b' ⟨x, hx, e⟩
    simp only [nowF, hasF, List.foldl_cons]
    by_cases hz : z.1 = w
    · rw [if_pos hz, if_pos hz, if_pos hz, if_pos hz]; exact ⟨rfl, rfl⟩
    · rw [if_neg hz, if_neg hz, if_neg hz, if_neg hz]
      rcases List.mem_cons.1 hx with rfl | hx
      · exact absurd e hz
      · exact ih ⟨x, hx, e⟩
theorem hasF_true {l : List Rw} : hasF w true l = true := by
  induction l with
  | nil => rfl
  | cons z l ih =>
    simp only [hasF, List.foldl_cons]
    split <;> exact ih
theorem nowF_keep : ∀ {l : List Rw} {r : Rw} {b : Bool}, nowF w r (keepR 1 l) = nowF w r l ∧ hasF w b (keepR 1 l) = hasF w b l
  | [], r, b => ⟨rfl, rfl⟩
  | z :: l, r, b => by
    unfold keepR
    split
    · simp only [nowF, hasF, List.foldl_cons]
      exact nowF_keep
    · rename_i h
      have hpos : 0 < lat z.1 l := by omega
      obtain ⟨x, hx, e⟩ := List.countP_pos_iff.1 hpos
      have e := of_decide_eq_true e
      have h1 := nowF_keep (l := l) (r := r) (b := b)
      simp only [nowF, hasF, List.foldl_cons] at h1 ⊢
      rw [h1.1, h1.2]
      by_cases hz : z.1 = w
      · have := nowF_some (w := w) (l := l) (r := r) (r' := z) (b := b) (b' := true) ⟨x, hx, by rw [e, hz]⟩
        rw [if_pos hz, if_pos hz]
        exact this
      · rw [if_neg hz, if_neg hz]
        exact ⟨rfl, rfl⟩
theorem nowF_of : ∀ {l : List Rw} {z r : Rw} {b : Bool}, l.Pairwise ltR → z ∈ l → z.1 = w → (∀ x ∈ l, x.1 = w → x.2.1 ≤ z.2.1) → nowF w r l = z ∧ hasF w b l = true
  | [], z, r, b, _, h, _, _ => by cases h
  | y :: l, z, r, b, hp, hz, e, hm => by
    obtain ⟨p1, p2⟩ := List.pairwise_cons.1 hp
    simp only [nowF, hasF, List.foldl_cons]
    rcases List.mem_cons.1 hz with rfl | hz
    · rw [if_pos e, if_pos e]
      exact nowF_none fun x hx ex => by
        have h1 := p1 x hx
        have h2 := hm x (List.mem_cons_of_mem _ hx) ex
        unfold ltR at h1
        omega
    · exact nowF_of p2 hz e fun x hx => hm x (List.mem_cons_of_mem _ hx)
end
theorem keep_now (l : List Rw) (w : Int) : nowR (keepR 1 l) w = nowR l w ∧ hasW (keepR 1 l) w = hasW l w := nowF_keep
theorem has_no {l : List Rw} {w : Int} (h : hasW l w = false) : ∀ x ∈ l, x.1 ≠ w := by
  have : ∀ (l : List Rw), hasF w false l = false → ∀ x ∈ l, x.1 ≠ w := by
    intro l
    induction l with
    | nil => intro _ x hx; cases hx
    | cons z l ih =>
      intro h x hx
      simp only [hasF, List.foldl_cons] at h
      by_cases hz : z.1 = w
      · rw [if_pos hz] at h
        have := hasF_true (w := w) (l := l)
        simp only [hasF] at this
        rw [this] at h
        cases h
      · rw [if_neg hz] at h
        rcases List.mem_cons.1 hx with rfl | hx
        · exact hz
        · exact ih h x hx
  exact this l h
theorem lastV_none {l : List Rw} {w : Int} (h : hasW l w = false) : lastV l w = 0 := by
  rw [← nowR_ver]
  have : nowR l w = (0, 0, 0) := (nowF_none (b := false) (has_no h)).1
  rw [this]
/-- What a row more leaves. -/
theorem add_spec {l : List Rw} {w k : Int} (h : TbOk l) (ha : addOk l w k = true) : TbOk (insR w (lastV l w + 1) k l) ∧ nowR (insR w (lastV l w + 1) k l) w = (w, lastV l w + 1, k) ∧ hasW (insR w (lastV l w + 1) k l) w = true ∧ ∀ x ∈ l, x ∈ insR w (lastV l w + 1) k l := by
  have hp := tb_pairwise h
  have hk : ∀ x ∈ l, rowOkB x = true := fun x hx => tb_row h hx
  have hm := lastV_mem (w := w) hp hk
  have hv := lastV_in h w
  obtain ⟨s1, s2⟩ := insR_spec (w := w) (n := lastV l w + 1) (k := k) hp fun x hx e => by have := hm x hx e; omega
  simp only [addOk, Bool.and_eq_true, inB_t, decide_eq_true_eq, Bool.not_eq_true', keyIn, decide_eq_false_iff_not] at ha
  obtain ⟨a1, a2, a3, a4, a5⟩ := ha
  have hin : ∀ x, x ∈ insR w (lastV l w + 1) k l ↔ x ∈ l ∨ x = (w, lastV l w + 1, k) := fun x => by rw [s2.mem_iff]; simp
  refine ⟨tb_of (by rw [s2.length_eq]; simp; omega) (fun x hx => ?_) s1 ?_, ?_⟩
  · rcases (hin x).1 hx with hx | rfl
    · exact hk x hx
    · simp only [rowOkB, Bool.and_eq_true, inB_t]; omega
  · have e := (s2.map (fun (z : Rw) => z.2.2)).nodup_iff
    unfold keysR
    rw [e, List.map_append]
    refine List.nodup_append.2 ⟨tb_nodup h, by simp, fun a ha b hb => ?_⟩
    simp only [List.map_cons, List.map_nil, List.mem_singleton] at hb
    subst hb
    intro e
    subst e
    exact a5 ha
  · have := nowF_of (w := w) (r := (0, 0, 0)) (b := false) s1 ((hin _).2 (.inr rfl)) rfl fun x hx e => by
      rcases (hin x).1 hx with hx | rfl
      · have := hm x hx e; simp only; omega
      · exact Int.le_refl _
    exact ⟨this.1, this.2, fun x hx => (hin x).2 (.inl hx)⟩
end Go.Proofs.Ytjepmnmakemfoaa.Ev

/- The law Tab. -/
namespace Go.Proofs.Ytjepmnmakemfoaa.Ev
set_option linter.all false
open Go
set_option maxRecDepth 4000

theorem find_in {l : List Rw} {z : Rw} {r : Value} (hp : l.Pairwise ltR) (hz : z ∈ l) (h : FindR l z.1 z.2.1 r) : r = .tuple #[.int .i64 z.2.2, .bool true] := by
  rcases h with ⟨x, hx, e1, e2, rfl⟩ | ⟨h, _⟩
  · rw [tb_inj hp hx hz e1 e2]
  · exact absurd ⟨rfl, rfl⟩ (h z hz)
theorem law11 {m : Md} {H : Hp} {v : Value} {cl : List Int} (hv : SlU H v cl) (hw : Wr m H) : Fun EE m 11 [v] H fun r _ => r = .bool true := by
  refine fun_f rfl rfl k11 (by simp [c11]) ?_
  have a33 := fun {m draw t d ts Q} => callT_at (m := m) (draw := draw) (s := t) (d := d) (ts := ts) (Q := Q) (f33 hv)
  simp only [go_sem, ↓reduceIte, Nat.reduceEqDiff, reduceCtorEq, Nat.reduceAdd, Nat.reduceLeDiff, Nat.reduceMul, c11, a33, hw]
  refine brT.intro (fun q0 => ?_) (fun q0 => ?_) <;> simp only [go_sem, ↓reduceIte, Nat.reduceEqDiff, reduceCtorEq, Nat.reduceAdd, Nat.reduceLeDiff, Nat.reduceMul]
  refine callD (f38 hv hw) rfl fun r1 H1 ⟨u, l, w, k, e, ⟨p1, s1, o1⟩, hl⟩ => ?_
  subst e
  have w1 := hw.pre p1
  simp only [go_sem, ↓reduceIte, Nat.reduceEqDiff, reduceCtorEq, Nat.reduceAdd, Nat.reduceLeDiff, Nat.reduceMul, List.getElem?_toArray, ofV]
  have hlen0 := addT_len l w k
  obtain ⟨T, ok, hT⟩ : ∃ T ok, addT l w k = (T, ok) := ⟨_, _, rfl⟩
  have key : ∀ {Ha Hb : Hp} {r : Value}, AddR Ha l w k r Hb → ∃ u, r = .tuple #[u, .bool ok] ∧ FreshS eRw 3 Ha u Hb T := fun {Ha Hb r} h => by
    unfold AddR at h
    rw [hT] at h
    exact h
  have hlen : T.length ≤ 20 := by rw [hT] at hlen0; exact hlen0
  refine callT_to (fun m' h => f37 (w := w) (k := k) s1 (by omega) h) rfl w1 fun r2 H2 h2 => ?_
  obtain ⟨uA, e2, p2, sA, oA⟩ := key h2
  subst e2
  have w2 := w1.pre p2
  have l2 := s1.pre p2
  simp only [go_sem, ↓reduceIte, Nat.reduceEqDiff, reduceCtorEq, Nat.reduceAdd, Nat.reduceLeDiff, Nat.reduceMul, List.getElem?_toArray, ofV]
  refine callT_to (fun m' h => f36 (w := w) (k := k) l2 h) rfl w2 fun r3 H3 h3 => ?_
  obtain ⟨uB, e3, p3, sB, oB⟩ := key h3
  subst e3
  have w3 := w2.pre p3
  have l3 := l2.pre p3
  have A3 := sA.pre p3
  have hB : decide (ok = ok) = true := by simp
  have a16 := fun {m draw t d ts Q} => callT_at (m := m) (draw := draw) (s := t) (d := d) (ts := ts) (Q := Q) (f16 l3)
  unfold addT at hT
  simp only [go_sem, ↓reduceIte, Nat.reduceEqDiff, reduceCtorEq, Nat.reduceAdd, Nat.reduceLeDiff, Nat.reduceMul, List.getElem?_toArray, ofV, beqK, hB, a16, w3]
  cases hb : tbOk l with
  | false =>
    rw [hb, if_neg (by decide)] at hT
    cases hT
    simp only [go_sem, ↓reduceIte, Nat.reduceEqDiff, reduceCtorEq, Nat.reduceAdd, Nat.reduceLeDiff, Nat.reduceMul, A3.len]
    rfl
  | true =>
  rw [hb, if_pos rfl] at hT
  have hok := tbOk_t.1 hb
  have hT2 : tbOk T = true ∧ (∀ x ∈ l, x ∈ T) ∧ (ok = true → nowR T w = (w, lastV l w + 1, k) ∧ hasW T w = true ∧ T.length = l.length + 1) ∧ (ok = false → T = l) := by
    by_cases ha : addOk l w k = true
    · rw [if_pos ha] at hT
      cases hT
      obtain ⟨b1, b2, b3, b4⟩ := add_spec hok ha
      exact ⟨tbOk_yes b1, b4, fun _ => ⟨b2, b3, insR_len _ _ _ _⟩, fun h => by cases h⟩
    · rw [if_neg ha] at hT
      cases hT
      exact ⟨hb, fun x h => h, fun h => (by cases h), fun _ => rfl⟩
  obtain ⟨hTb, hin, hyes, hno⟩ := hT2
  have hTok := tbOk_t.1 hTb
  have a22 := fun {m draw t d ts Q} => callT_at (m := m) (draw := draw) (s := t) (d := d) (ts := ts) (Q := Q) (f22 (w := w) l3 hb)
  have a23 := fun {m draw t d ts Q} => callT_at (m := m) (draw := draw) (s := t) (d := d) (ts := ts) (Q := Q) (f23 (w := w) A3 hTb)
  have b16 := fun {m draw t d ts Q} => callT_at (m := m) (draw := draw) (s := t) (d := d) (ts := ts) (Q := Q) (f16 A3)
  rw [hTb] at b16
  unfold vRw at a22 a23
  simp only [go_sem, ↓reduceIte, Nat.reduceEqDiff, reduceCtorEq, Nat.reduceAdd, Nat.reduceLeDiff, Nat.reduceMul, List.getElem?_toArray, ofV, a22, a23, w3]
  have hv1 := lastV_in hok w
  have hver := nowR_ver l w
  have wv := wrap64 ((nowR l w).2.1 + 1) (by omega) (by omega)
  have wl := wrap64 ((l.length : Int) + 1) (by omega) (by omega)
  have dk : decide (k = k) = true := by simp
  have hcase : (ok = true ∧ hasW l w = true) ∨ (ok = true ∧ hasW l w = false) ∨ ok = false := by cases ok <;> cases hasW l w <;> simp
  have dk : ok = true → decide ((nowR T w).2.2 = k) = true := fun h => decide_eq_true (by rw [(hyes h).1])
  have dv : ok = true → decide ((nowR T w).2.1 = (nowR l w).2.1 + 1) = true := fun h => decide_eq_true (by rw [(hyes h).1]; simp only; omega)
  have dn : ok = true → hasW l w = false → decide ((nowR T w).2.1 = 1) = true := fun h h2 => decide_eq_true (by rw [(hyes h).1]; simp only; rw [lastV_none h2]; rfl)
  have yl : ok = true → decide ((T.length : Int) = (l.length : Int) + 1) = true := fun h => decide_eq_true (by have := (hyes h).2.2; omega)
  have yw : ok = true → hasW T w = true := fun h => (hyes h).2.1
  have nl : ok = false → nowR T w = nowR l w := fun h => by rw [hno h]
  have d1 : ∀ n : Int, decide (n = n) = true := fun n => by simp
  have hTp := tb_pairwise hTok
  rcases hcase with ⟨e0, hh⟩ | ⟨e0, hh⟩ | e0
  simp only [go_sem, ↓reduceIte, Nat.reduceEqDiff, reduceCtorEq, Nat.reduceAdd, Nat.reduceLeDiff, Nat.reduceMul, e0, yw, hh, dk, dv, wv, wl, yl, b16, w3, A3.len, l3.len]
  rotate_left
  simp only [go_sem, ↓reduceIte, Nat.reduceEqDiff, reduceCtorEq, Nat.reduceAdd, Nat.reduceLeDiff, Nat.reduceMul, e0, yw, hh, dk, dn, wv, wl, yl, b16, w3, A3.len, l3.len]
  rotate_left
  simp only [go_sem, ↓reduceIte, Nat.reduceEqDiff, reduceCtorEq, Nat.reduceAdd, Nat.reduceLeDiff, Nat.reduceMul, e0, nl, d1]
  rotate_left
  all_goals
    refine go_for l.length (fun i s => s.H = H3 ∧ s.ρ 2 = .val (.bool false) ∧ s.ρ 3 = .val u ∧ s.ρ 4 = .val (.int .i64 w) ∧ s.ρ 6 = .val uA ∧ s.ρ 12 = .bx 1 (eRw (nowR T w)) ∧ s.ρ 13 = .val (.bool (hasW T w)) ∧ s.ρ 14 = .val (.int .i64 i))
      (fun s => s.H = H3 ∧ s.ρ 4 = .val (.int .i64 w) ∧ s.ρ 6 = .val uA ∧ s.ρ 12 = .bx 1 (eRw (nowR T w)) ∧ s.ρ 13 = .val (.bool (hasW T w))) ?_ ?_ ?_
    · exact ⟨rfl, by simp [upd], by simp [upd], by simp [upd], by simp [upd], by simp [upd, eRw, nl, e0], by simp [upd, yw, e0], by simp [upd]⟩
    · rintro i s hi ⟨hH, k2, k3, k4, k6, k12, k13, k14⟩
      simp only [go_sem, ↓reduceIte, Nat.reduceEqDiff, reduceCtorEq, Nat.reduceAdd, Nat.reduceLeDiff, Nat.reduceMul, k2, k3, k4, k6, k12, k13, k14, hH, l3.len]
      cases q1 : decide ((i : Int) < (l.length : Int)) <;> simp only [go_sem, ↓reduceIte, Nat.reduceEqDiff, reduceCtorEq, Nat.reduceAdd, Nat.reduceLeDiff, Nat.reduceMul, k2, k3, k4, k6, k12, k13, k14, q1]
      have hil : i < l.length := by have := of_decide_eq_true q1; omega
      have w2 := wrap64 ((i : Int) + 1) (by omega) (by omega)
      obtain ⟨id, p, o, ho, hr, hpp, hia⟩ := l3.elem (List.getElem?_eq_getElem hil)
      have hr : (o.drop p).take 3 = eRw l[i] := hr
      have g0 : o[p]? = some (.int .i64 l[i].1) := by simpa [eRw] using getElem?_of_take hr (j := 0) (by omega)
      have g1 : o[p + 1]? = some (.int .i64 l[i].2.1) := by simpa [eRw] using getElem?_of_take hr (j := 1) (by omega)
      have g2 : o[p + 2]? = some (.int .i64 l[i].2.2) := by simpa [eRw] using getElem?_of_take hr (j := 2) (by omega)
      refine go_draw ?_
      simp only [go_sem, ↓reduceIte, Nat.reduceEqDiff, reduceCtorEq, Nat.reduceAdd, Nat.reduceLeDiff, Nat.reduceMul, k2, k3, k4, k6, k12, k13, k14, hH, hia, ho, g0, g1]
      refine callT_to (fun m' h => f21 A3 hTb m' h) rfl w3 fun r H' ⟨hF, e⟩ => ?_
      have hF := find_in hTp (hin _ (List.getElem_mem hil)) hF
      subst e
      rw [hF]
      simp only [go_sem, ↓reduceIte, Nat.reduceEqDiff, reduceCtorEq, Nat.reduceAdd, Nat.reduceLeDiff, Nat.reduceMul, k2, k3, k4, k6, k12, k13, k14, List.getElem?_toArray, ofV]
      refine ⟨by rfl, ?_⟩
      simp only [go_sem, ↓reduceIte, Nat.reduceEqDiff, reduceCtorEq, Nat.reduceAdd, Nat.reduceLeDiff, Nat.reduceMul, k2, k3, k4, k6, k12, k13, k14, hia, ho, g2, d1, w2]
      exact ⟨hil, by simp⟩
    · rintro s ⟨hH, k4, k6, k12, k13⟩
      simp only [go_sem, ↓reduceIte, Nat.reduceEqDiff, reduceCtorEq, Nat.reduceAdd, Nat.reduceLeDiff, Nat.reduceMul, k4, k6, k12, k13]
      refine callT_to (fun m' h => f28 (n := 1) A3 hTb h) hH w3 fun r4 H4 ⟨p4, s4, o4⟩ => ?_
      have w4 := w3.pre p4
      have A4 := A3.pre p4
      have hK1 : tbOk (keepR 1 T) = true := tbOk_yes (tb_sub hTok (keepR_sub 1 T))
      have b23 := fun {m draw t d ts Q} => callT_at (m := m) (draw := draw) (s := t) (d := d) (ts := ts) (Q := Q) (f23 (w := w) s4 hK1)
      have c16 := fun {m draw t d ts Q} => callT_at (m := m) (draw := draw) (s := t) (d := d) (ts := ts) (Q := Q) (f16 s4)
      rw [(keep_now T w).1, (keep_now T w).2] at b23
      rw [hK1] at c16
      unfold vRw at b23
      unfold eRw at k12
      have bb : decide (hasW T w = hasW T w) = true := by simp
      simp only [go_sem, ↓reduceIte, Nat.reduceEqDiff, reduceCtorEq, Nat.reduceAdd, Nat.reduceLeDiff, Nat.reduceMul, k4, k6, k12, k13, b23, c16, w4, List.getElem?_toArray, ofV, d1, beqK, bb]
      refine callT_to (fun m' h => f28 (n := 20) A4 hTb h) rfl w4 fun r5 H5 ⟨p5, s5, o5⟩ => ?_
      have w5 := w4.pre p5
      have A5 := A4.pre p5
      rw [keepR_all hlen] at s5
      simp only [go_sem, ↓reduceIte, Nat.reduceEqDiff, reduceCtorEq, Nat.reduceAdd, Nat.reduceLeDiff, Nat.reduceMul, k4, k6, k12, k13, A5.len, s5.len, d1]
      refine callT_to (fun m' h => f28 (n := 0) A5 hTb h) rfl w5 fun r6 H6 ⟨p6, s6, o6⟩ => ?_
      rw [keepR_none] at s6
      simp only [go_sem, ↓reduceIte, Nat.reduceEqDiff, reduceCtorEq, Nat.reduceAdd, Nat.reduceLeDiff, Nat.reduceMul, k4, k6, k12, k13, s6.len]
      rfl
end Go.Proofs.Ytjepmnmakemfoaa.Ev
