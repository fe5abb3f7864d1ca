/- Texts of this proof, laid one behind the other: what each shows stands at its head. -/
import Derived.Test.YtdplmjlbkaipiaaB3
import Derived.Test.YtdplmjlbkaipiaaB4
/- Groups that are marked, each number by its own; that what is marked holds. -/
namespace Go.Proofs.Ytdplmjlbkaipiaa.Ev
set_option linter.all false
open Go
set_option maxRecDepth 4000

theorem Sl.turn {α β : Type} {R : α → List Value → Prop} {R' : β → List Value → Prop} {esz : Nat} {H H' : Hp} {v : Value} {l : List α} {l' : List β} (h : Sl R esz H v l) (hlen : l'.length = l.length)
    (hr : ∀ (i : Nat) a a' cs, l[i]? = some a → l'[i]? = some a' → R a cs → R' a' cs) (hH : ∀ id ∈ idsOf v, H'[id]? = H[id]?) : Sl R' esz H' v l' := by
  rcases h with ⟨rfl, rfl⟩ | ⟨id, off, cap, o, rfl, ho, hc, hn, hrm, hr2⟩
  · exact .inl ⟨rfl, List.eq_nil_of_length_eq_zero hlen⟩
  · refine .inr ⟨id, off, cap, o, by rw [hlen], by rw [hH id (by simp [idsOf])]; exact ho, hc, by rw [hlen]; exact hn, by rw [hlen]; exact hrm, fun i a' hi => ?_⟩
    have hil := (List.getElem?_eq_some_iff.1 hi).1
    have := List.getElem?_eq_getElem (l := l) (i := i) (by omega)
    exact hr i _ a' _ this hi (hr2 i _ this)
theorem GL.keep {N : Nat} {H H' : Hp} {v : Value} {l : List GX} (h : GL N H v l) (hk : ∀ j, N ≤ j → H'[j]? = H[j]?) (hlen : H'.length = H.length) : GL N H' v l := by
  have fr : ∀ {w : Value} {k : List Int}, SlI H w k → (∀ j ∈ idsOf w, N ≤ j) → SlI H' w k := fun hw hj => hw.frame (fun _ _ _ h => h) fun id off e ln cap hv => hk id (hj id (by subst hv; simp [idsOf]))
  exact ⟨h.sl.frame (fun x hx cs ⟨e, p, q⟩ => ⟨e, fr p fun j hj => (h.far j (List.mem_flatMap.2 ⟨x, hx, List.mem_append_left _ hj⟩)).2.1, fr q fun j hj => (h.far j (List.mem_flatMap.2 ⟨x, hx, List.mem_append_right _ hj⟩)).2.1⟩)
    fun id off e ln cap hv => hk id (own_ge h.own id (by subst hv; simp [idsOf])), h.own, h.nd, fun j hj => by rw [hlen]; exact h.far j hj⟩

def szX (x : GX) : Nat := x.1.1.length + x.1.2.length
def offX (l : List GX) (i : Nat) : Nat := ((l.take i).map szX).sum
theorem offX_succ {l : List GX} {i : Nat} (h : i < l.length) : offX l (i + 1) = offX l i + (l[i].1.1.length + l[i].1.2.length) := by
  unfold offX
  rw [List.take_succ_eq_append_getElem h, List.map_append, List.sum_append]
  simp [szX]
theorem offX_le {l : List GX} (hg : ∀ x ∈ l, x.1.1.length ≤ 1048576 ∧ x.1.2.length ≤ 1048576) : ∀ {i : Nat}, i ≤ l.length → offX l i ≤ i * 2097152
  | 0, _ => by simp [offX]
  | i + 1, h => by
    have := offX_le hg (i := i) (by omega)
    have h2 := hg l[i] (List.getElem_mem (by omega))
    rw [offX_succ (by omega)]
    omega
def mkx (l : List GX) (i : Nat) (x : GX) : GX := ((marks (1 + (offX l i : Int)) x.1.1.length, marks (1 + (offX l i : Int) + x.1.1.length) x.1.2.length), x.2)
def LX (l : List GX) : Nat → List GX
  | 0 => l
  | i + 1 => match l[i]? with
    | some x => (LX l i).set i (mkx l i x)
    | none => LX l i
theorem LX_len (l : List GX) : ∀ i, (LX l i).length = l.length
  | 0 => rfl
  | i + 1 => by
    unfold LX
    split
    · rw [List.length_set, LX_len l i]
    · exact LX_len l i
theorem LX_at {l : List GX} {i : Nat} (h : i < l.length) : LX l (i + 1) = (LX l i).set i (mkx l i l[i]) := by
  conv => lhs; unfold LX
  rw [List.getElem?_eq_getElem h]
theorem LX_ge (l : List GX) : ∀ {i j : Nat}, i ≤ j → (LX l i)[j]? = l[j]?
  | 0, _, _ => rfl
  | i + 1, j, h => by
    unfold LX
    split
    · rw [List.getElem?_set_ne (by omega)]
      exact LX_ge l (by omega)
    · exact LX_ge l (by omega)
theorem LX_lt {l : List GX} {j : Nat} (hj : j < l.length) : ∀ {i : Nat}, j < i → (LX l i)[j]? = some (mkx l j l[j])
  | 0, h => by omega
  | i + 1, h => by
    by_cases e : j = i
    · subst e
      rw [LX_at hj, List.getElem?_set_self (by rw [LX_len]; exact hj)]
    · have := LX_lt hj (i := i) (by omega)
      unfold LX
      split
      · rw [List.getElem?_set_ne (by omega)]
        exact this
      · exact this
theorem LX_hd {l : List GX} {i j : Nat} {x : GX} (h : (LX l i)[j]? = some x) : ∃ y, l[j]? = some y ∧ x.2 = y.2 := by
  have hj : j < l.length := by have := (List.getElem?_eq_some_iff.1 h).1; rw [LX_len] at this; exact this
  by_cases e : j < i
  · rw [LX_lt hj e] at h
    cases h
    exact ⟨_, List.getElem?_eq_getElem hj, rfl⟩
  · rw [LX_ge l (by omega)] at h
    exact ⟨x, h, rfl⟩
theorem nd_apart {l : List GX} (h : (l.flatMap idsX).Nodup) : (∀ x ∈ l, ∀ j ∈ idsOf x.2.1, j ∉ idsOf x.2.2) ∧ ∀ i j : Nat, i ≠ j → ∀ x y, l[i]? = some x → l[j]? = some y → ∀ k ∈ idsX x, k ∉ idsX y := by
  unfold List.Nodup at h
  rw [List.pairwise_flatMap] at h
  refine ⟨fun x hx j h1 h2 => ?_, fun i j hij x y hx hy k h1 h2 => ?_⟩
  · have := h.1 x hx
    unfold idsX at this
    exact (List.pairwise_append.1 this).2.2 j h1 j h2 rfl
  · have hp := List.pairwise_iff_getElem.1 h.2
    obtain ⟨hi, rfl⟩ := List.getElem?_eq_some_iff.1 hx
    obtain ⟨hj, rfl⟩ := List.getElem?_eq_some_iff.1 hy
    rcases Nat.lt_or_gt_of_ne hij with hlt | hlt
    · exact hp i j hi hj hlt k h1 k h2 rfl
    · exact hp j i hj hi hlt k h2 k h1 rfl

theorem f45k {m : Md} {H : Hp} {v : Value} {l : List Group} {x M : Nat} {k : Int} (hl : Sl (RGm x M H) 2 H v l) (hx : ∀ j ∈ idsOf v, j ≤ x) (hle : l.length ≤ 1048576) (hg : ∀ g ∈ l, g.1.length ≤ 1048576 ∧ g.2.length ≤ 1048576) (hw : ∀ id, x < id → m.wr id = true) (hk0 : 0 ≤ k) (hk1 : k ≤ 4398046511104) :
    Fun EE m 45 [v, .int .i64 k] H fun r H' => (∃ n : Int, r = .int .i64 n ∧ 0 ≤ n ∧ n ≤ k + (l.length : Int) * 2097152) ∧ (∀ j, ¬ (x < j ∧ j < M) → H'[j]? = H[j]?) ∧ H'.length = H.length := by
  refine fun_f rfl rfl k45 (by simp [c45]) ?_
  simp only [go_sem, ↓reduceIte, Nat.reduceEqDiff, reduceCtorEq, Nat.reduceAdd, Nat.reduceLeDiff, Nat.reduceMul, c45]
  refine go_for l.length (fun i s => s.ρ 0 = .val v ∧ (∃ n : Int, s.ρ 1 = .val (.int .i64 n) ∧ 0 ≤ n ∧ n ≤ k + (i : Int) * 2097152) ∧ s.ρ 5 = .val (.int .i64 i) ∧ Sl (RGm x M s.H) 2 s.H v l ∧ (∀ j, ¬ (x < j ∧ j < M) → s.H[j]? = H[j]?) ∧ s.H.length = H.length)
    (fun s => (∃ n : Int, s.ρ 1 = .val (.int .i64 n) ∧ 0 ≤ n ∧ n ≤ k + (l.length : Int) * 2097152) ∧ (∀ j, ¬ (x < j ∧ j < M) → s.H[j]? = H[j]?) ∧ s.H.length = H.length) ⟨rfl, ⟨k, rfl, by omega, by omega⟩, rfl, hl, fun _ _ => rfl, rfl⟩ ?_ ?_
  · rintro i s hi ⟨h0, ⟨n, h1, hn0, hn1⟩, h5, hs, hf, hlen⟩
    simp only [go_sem, ↓reduceIte, Nat.reduceEqDiff, reduceCtorEq, Nat.reduceAdd, Nat.reduceLeDiff, Nat.reduceMul, h0, h1, h5, hs.len]
    refine brT.intro (fun q1 => ?_) (fun q1 => ?_) <;> simp only [go_sem, ↓reduceIte, Nat.reduceEqDiff, reduceCtorEq, Nat.reduceAdd, Nat.reduceLeDiff, Nat.reduceMul, h0, h1, h5]
    · have hil : i < l.length := by have := of_decide_eq_true q1; omega
      have hgi := hg _ (List.getElem_mem hil)
      obtain ⟨id, p, o, ho, hp, hid, ⟨u, z, e, hu, hz, iu, iz⟩, hia, _⟩ := hs.both hil
      have q0 : o[p]? = some u := by simpa using getElem?_of_take e (j := 0) (by omega)
      have qz : o[p + 1]? = some z := by simpa using getElem?_of_take e (j := 1) (by omega)
      have step : ∀ {H2 H3 : Hp} {w : Value}, Sl (RGm x M H2) 2 H2 v l → (∀ j ∈ idsOf w, x < j ∧ j < M) → (∀ j, j ∉ idsOf w → H3[j]? = H2[j]?) → SL H2 H3 → Sl (RGm x M H3) 2 H3 v l := fun {H2 H3 w} k1 k2 k3 k4 =>
        k1.frame (fun _ _ _ ⟨u, z, e, hu, hz, iu, iz⟩ => ⟨u, z, e, hu.sl k4, hz.sl k4, iu, iz⟩) fun id off e len cap hv => by
          subst hv
          refine k3 id fun hm => ?_
          have := k2 id hm
          have := hx id (by simp [idsOf])
          omega
      simp only [go_sem, ↓reduceIte, Nat.reduceEqDiff, reduceCtorEq, Nat.reduceAdd, Nat.reduceLeDiff, Nat.reduceMul, h0, h1, h5, hia, ho, q0]
      refine callT_now (f27b hu hn0 (by omega) (fun id hid => hw id (iu id hid).1)) fun r1 H1 ⟨e1, f1, l1⟩ => ?_
      subst e1
      have hs1 := step hs iu f1 l1
      have idx : id ≤ x := hx id (by rw [hid]; simp)
      have ho1 : H1[id]? = some o := by
        rw [f1 id (fun hm => by have := (iu id hm).1; omega)]
        exact ho
      simp only [go_sem, ↓reduceIte, Nat.reduceEqDiff, reduceCtorEq, Nat.reduceAdd, Nat.reduceLeDiff, Nat.reduceMul, h0, h1, h5, hia, ho1, qz]
      refine callT_now (f27b (hz.sl l1) (by omega) (by omega) (fun id hid => hw id (iz id hid).1)) fun r2 H2 ⟨e2, f2, l2⟩ => ?_
      subst e2
      simp only [go_sem, ↓reduceIte, Nat.reduceEqDiff, reduceCtorEq, Nat.reduceAdd, Nat.reduceLeDiff, Nat.reduceMul, h0, h1, h5, wrap64 ((i : Int) + 1) (by omega) (by omega)]
      refine ⟨hil, ⟨_, rfl, by omega, by omega⟩, by simp, step hs1 iz f2 l2, fun j hj => ?_, by rw [l2.1, l1.1, hlen]⟩
      rw [f2 j (fun hm => hj (iz j hm)), f1 j (fun hm => hj (iu j hm)), hf j hj]
    · have : i = l.length := by have := of_decide_eq_false q1; omega
      subst this
      exact ⟨⟨n, rfl, hn0, hn1⟩, hf, hlen⟩
  · rintro s ⟨⟨n, h1, hn0, hn1⟩, hf, hlen⟩
    simp only [go_sem, ↓reduceIte, Nat.reduceEqDiff, reduceCtorEq, Nat.reduceAdd, Nat.reduceLeDiff, Nat.reduceMul, h1]
    exact ⟨⟨n, rfl, hn0, hn1⟩, hf, hlen⟩

theorem f45x {m : Md} {N : Nat} {H : Hp} {v : Value} {l : List GX} (hl : GL N H v l) (hle : l.length ≤ 1048576) (hg : ∀ x ∈ l, x.1.1.length ≤ 1048576 ∧ x.1.2.length ≤ 1048576) (hw : ∀ id, N ≤ id → m.wr id = true) :
    Fun EE m 45 [v, .int .i64 1] H fun r H' => r = .int .i64 (1 + (offX l l.length : Int)) ∧ Sl (RX H') 2 H' v (LX l l.length) ∧ (∀ j, j < N → H'[j]? = H[j]?) ∧ H'.length = H.length := by
  refine fun_f rfl rfl k45 (by simp [c45]) ?_
  obtain ⟨nd1, nd2⟩ := nd_apart hl.nd
  simp only [go_sem, ↓reduceIte, Nat.reduceEqDiff, reduceCtorEq, Nat.reduceAdd, Nat.reduceLeDiff, Nat.reduceMul, c45]
  refine go_for l.length (fun i s => s.ρ 0 = .val v ∧ s.ρ 1 = .val (.int .i64 (1 + (offX l i : Int))) ∧ s.ρ 5 = .val (.int .i64 i) ∧ Sl (RX s.H) 2 s.H v (LX l i) ∧ (∀ j, j ∉ l.flatMap idsX → s.H[j]? = H[j]?) ∧ s.H.length = H.length)
    (fun s => s.ρ 1 = .val (.int .i64 (1 + (offX l l.length : Int))) ∧ Sl (RX s.H) 2 s.H v (LX l l.length) ∧ (∀ j, j ∉ l.flatMap idsX → s.H[j]? = H[j]?) ∧ s.H.length = H.length) ⟨rfl, rfl, rfl, hl.sl, fun _ _ => rfl, rfl⟩ ?_ ?_
  · rintro i s hi ⟨h0, h1, h5, hs, hf, hlen⟩
    have hLl := LX_len l i
    simp only [go_sem, ↓reduceIte, Nat.reduceEqDiff, reduceCtorEq, Nat.reduceAdd, Nat.reduceLeDiff, Nat.reduceMul, h0, h1, h5, hs.len, hLl]
    refine brT.intro (fun q1 => ?_) (fun q1 => ?_) <;> simp only [go_sem, ↓reduceIte, Nat.reduceEqDiff, reduceCtorEq, Nat.reduceAdd, Nat.reduceLeDiff, Nat.reduceMul, h0, h1, h5]
    · have hil : i < l.length := by have := of_decide_eq_true q1; omega
      have hgi := hg _ (List.getElem_mem hil)
      have hLi : (LX l i)[i]'(by omega) = l[i] := by
        have := LX_ge l (Nat.le_refl i)
        rw [List.getElem?_eq_getElem (by omega), List.getElem?_eq_getElem hil] at this
        exact Option.some.inj this
      have hoff := offX_le hg (i := i) (by omega)
      obtain ⟨id, p, o, ho, hp, hid, ⟨e, hu, hz⟩, hia, _⟩ := hs.both (i := i) (by omega)
      rw [hLi] at e hu hz
      have q0 : o[p]? = some l[i].2.1 := by simpa using getElem?_of_take e (j := 0) (by omega)
      have qz : o[p + 1]? = some l[i].2.2 := by simpa using getElem?_of_take e (j := 1) (by omega)
      have iu : ∀ j ∈ idsOf l[i].2.1, j ∈ l.flatMap idsX := fun j hj => List.mem_flatMap.2 ⟨_, List.getElem_mem hil, List.mem_append_left _ hj⟩
      have iz : ∀ j ∈ idsOf l[i].2.2, j ∈ l.flatMap idsX := fun j hj => List.mem_flatMap.2 ⟨_, List.getElem_mem hil, List.mem_append_right _ hj⟩
      have hidv : ∀ j ∈ l.flatMap idsX, j ≠ id := fun j hj e => (hl.far j hj).1 (by rw [hid, e]; simp)
      simp only [go_sem, ↓reduceIte, Nat.reduceEqDiff, reduceCtorEq, Nat.reduceAdd, Nat.reduceLeDiff, Nat.reduceMul, h0, h1, h5, hia, ho, q0]
      refine callT_now (f27 hu (by omega) (by have := hgi.1; omega) (fun id hid => hw id (hl.far id (iu id hid)).2.1)) fun r1 H1 ⟨e1, g1, f1, l1⟩ => ?_
      subst e1
      have l1 : H1.length = s.H.length := l1
      have ho1 : H1[id]? = some o := by
        rw [f1 id (fun hm => hidv id (iu id hm) rfl)]
        exact ho
      have hz1 : SlI H1 l[i].2.2 l[i].1.2 := hz.frame (fun _ _ _ h => h) fun id off e ln cap hv => f1 id (fun hm => nd1 _ (List.getElem_mem hil) id hm (by rw [hv]; simp [idsOf]))
      simp only [go_sem, ↓reduceIte, Nat.reduceEqDiff, reduceCtorEq, Nat.reduceAdd, Nat.reduceLeDiff, Nat.reduceMul, h0, h1, h5, hia, ho1, qz]
      refine callT_now (f27 hz1 (by omega) (by omega) (fun id hid => hw id (hl.far id (iz id hid)).2.1)) fun r2 H2 ⟨e2, g2, f2, l2⟩ => ?_
      subst e2
      have l2 : H2.length = H1.length := l2
      simp only [go_sem, ↓reduceIte, Nat.reduceEqDiff, reduceCtorEq, Nat.reduceAdd, Nat.reduceLeDiff, Nat.reduceMul, h0, h1, h5, wrap64 ((i : Int) + 1) (by omega) (by omega)]
      have fr : ∀ {w : Value} {k : List Int}, SlI s.H w k → (∀ j ∈ idsOf w, j ∉ idsX l[i]) → SlI H2 w k := fun {w k} hk hj => hk.frame (fun _ _ _ h => h) fun id off e ln cap hv => by
        have hm := hj id (by subst hv; simp [idsOf])
        rw [f2 id (fun h => hm (List.mem_append_right _ h)), f1 id (fun h => hm (List.mem_append_left _ h))]
      refine ⟨hil, by rw [offX_succ hil]; congr 2; omega, by simp, ?_, fun j hj => ?_, by omega⟩
      · refine hs.turn (by rw [LX_len, LX_len]) (fun j a a' cs hj hj' ⟨e', p1, p2⟩ => ?_) fun j hj => ?_
        · by_cases ej : j = i
          · subst ej
            rw [LX_lt hil (by omega)] at hj'
            rw [LX_ge l (Nat.le_refl _), List.getElem?_eq_getElem hil] at hj
            cases hj
            cases hj'
            refine ⟨e', ?_, g2⟩
            exact g1.frame (fun _ _ _ h => h) fun id off e ln cap hv => f2 id (fun hm => nd1 _ (List.getElem_mem hil) id (by simp [hv, idsOf]) hm)
          · rw [LX_at hil, List.getElem?_set_ne (by omega), hj] at hj'
            cases hj'
            obtain ⟨y, hy, ey⟩ := LX_hd hj
            have hap := nd2 j i ej y l[i] hy (List.getElem?_eq_getElem hil)
            refine ⟨e', fr p1 fun k hk => hap k ?_, fr p2 fun k hk => hap k ?_⟩
            · unfold idsX; rw [← ey]; exact List.mem_append_left _ hk
            · unfold idsX; rw [← ey]; exact List.mem_append_right _ hk
        · rw [hid] at hj
          simp at hj
          subst hj
          rw [f2 j (fun hm => hidv j (iz j hm) rfl), f1 j (fun hm => hidv j (iu j hm) rfl)]
      · rw [f2 j (fun hm => hj (iz j hm)), f1 j (fun hm => hj (iu j hm)), hf j hj]
    · have : i = l.length := by have := of_decide_eq_false q1; omega
      subst this
      exact ⟨rfl, hs, hf, hlen⟩
  · rintro s ⟨h1, hs, hf, hlen⟩
    simp only [go_sem, ↓reduceIte, Nat.reduceEqDiff, reduceCtorEq, Nat.reduceAdd, Nat.reduceLeDiff, Nat.reduceMul, h1]
    exact ⟨hs, fun j hj => hf j (fun hm => by have := (hl.far j hm).2.1; omega), hlen⟩

theorem f52 {H : Hp} {v : Value} {l : List GX} (hs : Sl (RX H) 2 H v (LX l l.length)) (hle : l.length ≤ 1048576) (hg : ∀ x ∈ l, x.1.1.length ≤ 1048576 ∧ x.1.2.length ≤ 1048576) : Scal EE 52 [v, .int .i64 1] H (.int .i64 (1 + (offX l l.length : Int))) := by
  refine scal_ok rfl rfl k52 (by simp [c52]) rfl fun m hw => ?_
  have hLl := LX_len l l.length
  simp only [go_sem, ↓reduceIte, Nat.reduceEqDiff, reduceCtorEq, Nat.reduceAdd, Nat.reduceLeDiff, Nat.reduceMul, c52]
  refine go_for l.length (fun i s => s.H = H ∧ s.ρ 0 = .val v ∧ s.ρ 1 = .val (.int .i64 (1 + (offX l i : Int))) ∧ s.ρ 5 = .val (.int .i64 i))
    (fun s => s.H = H ∧ s.ρ 1 = .val (.int .i64 (1 + (offX l l.length : Int)))) ⟨rfl, rfl, rfl, rfl⟩ ?_ ?_
  · rintro i s hi ⟨hH, h0, h1, h5⟩
    simp only [go_sem, ↓reduceIte, Nat.reduceEqDiff, reduceCtorEq, Nat.reduceAdd, Nat.reduceLeDiff, Nat.reduceMul, h0, h1, h5, hs.len, hLl, hH]
    refine brT.intro (fun q1 => ?_) (fun q1 => ?_) <;> simp only [go_sem, ↓reduceIte, Nat.reduceEqDiff, reduceCtorEq, Nat.reduceAdd, Nat.reduceLeDiff, Nat.reduceMul, h0, h1, h5]
    · have hil : i < l.length := by have := of_decide_eq_true q1; omega
      have hgi := hg _ (List.getElem_mem hil)
      have hoff := offX_le hg (i := i) (by omega)
      obtain ⟨id, p, o, ho, ⟨e, hu, hz⟩, hp, hia⟩ := hs.elem (LX_lt hil hil)
      have e : (o.drop p).take 2 = [l[i].2.1, l[i].2.2] := e
      have hu : SlI H l[i].2.1 (marks (1 + (offX l i : Int)) l[i].1.1.length) := hu
      have hz : SlI H l[i].2.2 (marks (1 + (offX l i : Int) + l[i].1.1.length) l[i].1.2.length) := hz
      have q0 : o[p]? = some l[i].2.1 := by simpa using getElem?_of_take e (j := 0) (by omega)
      have qz : o[p + 1]? = some l[i].2.2 := by simpa using getElem?_of_take e (j := 1) (by omega)
      have a1 := fun {m draw s d ts Q} => callT_at (m := m) (draw := draw) (s := s) (d := d) (ts := ts) (Q := Q) (f28 hu (by omega) (by omega))
      have a2 := fun {m draw s d ts Q} => callT_at (m := m) (draw := draw) (s := s) (d := d) (ts := ts) (Q := Q) (f28 hz (by omega) (by omega))
      have n1 : decide (1 + (offX l i : Int) + (l[i].1.1.length : Int) < 0) = false := decide_eq_false (by omega)
      have n2 : decide (1 + (offX l i : Int) + (l[i].1.1.length : Int) + (l[i].1.2.length : Int) < 0) = false := decide_eq_false (by omega)
      simp only [go_sem, ↓reduceIte, Nat.reduceEqDiff, reduceCtorEq, Nat.reduceAdd, Nat.reduceLeDiff, Nat.reduceMul, h0, h1, h5, hia, hH, ho, q0, qz, a1, a2, hw, n1, n2, wrap64 ((i : Int) + 1) (by omega) (by omega)]
      exact ⟨hil, by rw [offX_succ hil]; congr 2; omega, by simp⟩
    · have : i = l.length := by have := of_decide_eq_false q1; omega
      subst this
      rfl
  · rintro s ⟨hH, h1⟩
    simp only [go_sem, ↓reduceIte, Nat.reduceEqDiff, reduceCtorEq, Nat.reduceAdd, Nat.reduceLeDiff, Nat.reduceMul, h1, hH]
end Go.Proofs.Ytdplmjlbkaipiaa.Ev

/- The law Merge. -/
namespace Go.Proofs.Ytdplmjlbkaipiaa.Ev
set_option linter.all false
open Go
set_option maxRecDepth 4000

theorem szGS_ok2 {l : List Group} {left : Int} (hl : left ≤ 1048576) (h : 0 ≤ szGS l left) : l.length ≤ 1048576 ∧ (∀ g ∈ l, g.1.length ≤ 1048576 ∧ g.2.length ≤ 1048576) ∧ szGS l left ≤ 1048576 := by
  unfold szGS at h ⊢
  split at h
  · omega
  · rename_i h2
    rw [if_neg h2]
    refine ⟨by omega, szGs_le (by omega) h, ?_⟩
    have : ∀ (l : List Group) (left : Int), left ≤ 1048576 → szGs l left ≤ 1048576 := by
      intro l
      induction l with
      | nil => intro left h; exact h
      | cons g l ih =>
        intro left h
        unfold szGs
        split
        · omega
        · exact ih _ (szG_le h).1
    exact this l _ (by omega)
theorem merge_le {a b : List Group} : (mergeL a b).length ≤ 8 ∧ ∀ g ∈ mergeL a b, g.1.length ≤ 62 ∧ g.2.length ≤ 16 := by
  unfold mergeL
  split
  · rename_i h
    have ha := (groupsOk_in h.1).1
    have hb := (groupsOk_in h.2).1
    refine ⟨by rw [List.length_map, List.length_range]; omega, fun g hg => ?_⟩
    obtain ⟨i, _, rfl⟩ := List.mem_map.1 hg
    have oa := ok_of h.1 i
    have ob := ok_of h.2 i
    have r1 := rsn_le (uOf a i ++ uOf b i)
    have r2 := rsn_le (sOf a i ++ sOf b i)
    rw [List.length_append] at r1 r2
    exact ⟨by show (rsn _).length ≤ _; omega, by show (rsn _).length ≤ _; omega⟩
  · simp
theorem law13 {m : Md} {H : Hp} {v0 v1 : Value} {a b : List Group} (ha : SlG H v0 a) (hb : SlG H v1 b) (hw : Wr m H) (hnr : m.nr = false) : Fun EE m 13 [v0, v1] H fun r _ => r = .bool true := by
  refine fun_f rfl rfl k13 (by simp [c13]) ?_
  have a38 := fun {m draw s d ts Q} => callT_at (m := m) (draw := draw) (s := s) (d := d) (ts := ts) (Q := Q) (f38 (left := 1048576) ha (by omega) (by omega))
  simp only [go_sem, ↓reduceIte, Nat.reduceEqDiff, reduceCtorEq, Nat.reduceAdd, Nat.reduceLeDiff, Nat.reduceMul, c13, a38, hw]
  refine brT.intro (fun q0 => ?_) (fun q0 => ?_) <;> simp only [go_sem, ↓reduceIte, Nat.reduceEqDiff, reduceCtorEq, Nat.reduceAdd, Nat.reduceLeDiff, Nat.reduceMul]
  have q0' : 0 ≤ szGS a 1048576 := by have := of_decide_eq_false q0; omega
  obtain ⟨hla, hga, hs1⟩ := szGS_ok2 (by omega) q0'
  have b38 := fun {m draw s d ts Q} => callT_at (m := m) (draw := draw) (s := s) (d := d) (ts := ts) (Q := Q) (f38 (left := szGS a 1048576) hb q0' hs1)
  simp only [go_sem, ↓reduceIte, Nat.reduceEqDiff, reduceCtorEq, Nat.reduceAdd, Nat.reduceLeDiff, Nat.reduceMul, b38, hw]
  refine brT.intro (fun q1 => ?_) (fun q1 => ?_) <;> simp only [go_sem, ↓reduceIte, Nat.reduceEqDiff, reduceCtorEq, Nat.reduceAdd, Nat.reduceLeDiff, Nat.reduceMul]
  obtain ⟨hlb, hgb, _⟩ := szGS_ok2 (l := b) hs1 (by have := of_decide_eq_false q1; omega)
  clear a38 b38
  obtain ⟨hml, hmg⟩ := merge_le (a := a) (b := b)
  refine callT_nr (fun m' h hn => f40m ha hla hga h (hn.trans hnr)) rfl hw fun r1 H1 x1 => ?_
  have w1 := hw.pre x1.pre
  simp only [go_sem, ↓reduceIte, Nat.reduceEqDiff, reduceCtorEq, Nat.reduceAdd, Nat.reduceLeDiff, Nat.reduceMul]
  refine callT_nr (fun m' h hn => f40m (hb.preG x1.pre) hlb hgb h (hn.trans hnr)) rfl w1 fun r2 H2 x2 => ?_
  have w2 := w1.pre x2.pre
  simp only [go_sem, ↓reduceIte, Nat.reduceEqDiff, reduceCtorEq, Nat.reduceAdd, Nat.reduceLeDiff, Nat.reduceMul]
  refine callT_nr (fun m' h hn => f50 (x1.g.preG x2.pre) x2.g h (hn.trans hnr)) rfl w2 fun rw0 H3 ⟨p3, lw, gw, ew⟩ => ?_
  have w3 := w2.pre p3
  have q3 := (x1.pre.trans x2.pre).trans p3
  have sw := gw.g
  rw [ew] at sw
  simp only [go_sem, ↓reduceIte, Nat.reduceEqDiff, reduceCtorEq, Nat.reduceAdd, Nat.reduceLeDiff, Nat.reduceMul]
  refine callT_nr (fun m' h hn => f40m (ha.preG q3) hla hga h (hn.trans hnr)) rfl w3 fun r4 H4 x4 => ?_
  have w4 := w3.pre x4.pre
  have q4 := q3.trans x4.pre
  simp only [go_sem, ↓reduceIte, Nat.reduceEqDiff, reduceCtorEq, Nat.reduceAdd, Nat.reduceLeDiff, Nat.reduceMul]
  refine callT_nr (fun m' h hn => f40m (hb.preG q4) hlb hgb h (hn.trans hnr)) rfl w4 fun r5 H5 x5 => ?_
  have w5 := w4.pre x5.pre
  have q5 := q4.trans x5.pre
  simp only [go_sem, ↓reduceIte, Nat.reduceEqDiff, reduceCtorEq, Nat.reduceAdd, Nat.reduceLeDiff, Nat.reduceMul]
  refine callT_nr (fun m' h hn => f51 (x4.g.preG x5.pre) x5.g h (hn.trans hnr)) rfl w5 fun rg H6 ⟨p6, lg, gg, eg⟩ => ?_
  have w6 := w5.pre p6
  have q6 := q5.trans p6
  have sg := gg.g
  rw [eg] at sg
  have sw6 := sw.preG (x4.pre.trans (x5.pre.trans p6))
  have a42 := fun {m draw s d ts Q} => callT_at (m := m) (draw := draw) (s := s) (d := d) (ts := ts) (Q := Q) (f42 sg sw6)
  simp only [go_sem, ↓reduceIte, Nat.reduceEqDiff, reduceCtorEq, Nat.reduceAdd, Nat.reduceLeDiff, Nat.reduceMul, a42, w6, decide_true, Bool.not_true]
  refine callT_nr (fun m' h hn => f40m (ha.preG q6) hla hga h (hn.trans hnr)) rfl w6 fun r7 H7 x7 => ?_
  have w7 := w6.pre x7.pre
  have q7 := q6.trans x7.pre
  have b42 := fun {m draw s d ts Q} => callT_at (m := m) (draw := draw) (s := s) (d := d) (ts := ts) (Q := Q) (f42 (x4.g.preG (x5.pre.trans (p6.trans x7.pre))) x7.g)
  simp only [go_sem, ↓reduceIte, Nat.reduceEqDiff, reduceCtorEq, Nat.reduceAdd, Nat.reduceLeDiff, Nat.reduceMul, b42, w7, decide_true, Bool.not_true]
  refine callT_nr (fun m' h hn => f40m (hb.preG q7) hlb hgb h (hn.trans hnr)) rfl w7 fun r8 H8 x8 => ?_
  have w8 := w7.pre x8.pre
  have q8 := q7.trans x8.pre
  have c42 := fun {m draw s d ts Q} => callT_at (m := m) (draw := draw) (s := s) (d := d) (ts := ts) (Q := Q) (f42 (x5.g.preG (p6.trans (x7.pre.trans x8.pre))) x8.g)
  simp only [go_sem, ↓reduceIte, Nat.reduceEqDiff, reduceCtorEq, Nat.reduceAdd, Nat.reduceLeDiff, Nat.reduceMul, c42, w8, decide_true, Bool.not_true]
  have n3 := p3.length_le; have n4 := x4.pre.length_le; have n5 := x5.pre.length_le; have n6 := p6.length_le; have n7 := x7.pre.length_le; have n8 := x8.pre.length_le; have nq := q3.length_le
  refine callT_now (f45k (k := 1) (x4.m.preM (x5.pre.trans (p6.trans (x7.pre.trans x8.pre)))) x4.le hla hga (fun id hid => hw id (by omega)) (by omega) (by omega)) fun r9 H9 ⟨⟨k9, e9, h9, hh9⟩, f9, l9⟩ => ?_
  subst e9
  have l9 : H9.length = H8.length := l9
  have m5 : Sl (RGm H4.length H5.length H9) 2 H9 r5 b := by
    have h8 := x5.m.preM (p6.trans (x7.pre.trans x8.pre))
    refine h8.frame (fun g _ cs ⟨u, s, e, hu, hs, iu, is⟩ => ⟨u, s, e, ?_, ?_, iu, is⟩) fun id off e ln cap hv => f9 id (by have := own_ge x5.own id (by subst hv; simp [idsOf]); omega)
    · exact hu.frame (fun _ _ _ h => h) fun id off e ln cap hv => f9 id (by have := (iu id (by subst hv; simp [idsOf])).1; omega)
    · exact hs.frame (fun _ _ _ h => h) fun id off e ln cap hv => f9 id (by have := (is id (by subst hv; simp [idsOf])).1; omega)
  simp only [go_sem, ↓reduceIte, Nat.reduceEqDiff, reduceCtorEq, Nat.reduceAdd, Nat.reduceLeDiff, Nat.reduceMul]
  refine callT_now (f45k (k := k9) m5 x5.le hlb hgb (fun id hid => hw id (by omega)) (by omega) (by omega)) fun r10 H10 ⟨⟨k10, e10, h10, hh10⟩, f10, l10⟩ => ?_
  subst e10
  have l10 : H10.length = H9.length := l10
  have q10 : H3 <+: H10 := pre_keep (x4.pre.trans (x5.pre.trans (p6.trans (x7.pre.trans x8.pre)))) (fun j hj => by rw [f10 j (by omega), f9 j (by omega)]) (by omega)
  have g10 : GL H5.length H10 rg lg := (gg.pre (x7.pre.trans x8.pre)).keep (fun j hj => by rw [f10 j (by omega), f9 j (by omega)]) (by omega)
  have w10 : Wr m H10 := fun id hid => hw id (by omega)
  have sg10 := g10.g
  rw [eg] at sg10
  have sw10 := sw.preG q10
  have hk : decide (k10 < 0) = false := decide_eq_false (by omega)
  have d42 := fun {m draw s d ts Q} => callT_at (m := m) (draw := draw) (s := s) (d := d) (ts := ts) (Q := Q) (f42 sg10 sw10)
  simp only [go_sem, ↓reduceIte, Nat.reduceEqDiff, reduceCtorEq, Nat.reduceAdd, Nat.reduceLeDiff, Nat.reduceMul, hk, d42, w10, decide_true, Bool.not_true]
  have hgl : lg.length ≤ 8 := by have := congrArg List.length eg; rw [List.length_map] at this; omega
  have hgm : ∀ x ∈ lg, x.1.1.length ≤ 1048576 ∧ x.1.2.length ≤ 1048576 := fun x hx => by
    have := hmg x.1 (by rw [← eg]; exact List.mem_map.2 ⟨x, hx, rfl⟩)
    omega
  have hoff := offX_le hgm (Nat.le_refl _)
  refine callT_now (f45x g10 (by omega) hgm (fun id hid => hw id (by omega))) fun r11 H11 ⟨e11, s11, f11, l11⟩ => ?_
  subst e11
  have l11 : H11.length = H10.length := l11
  have q11 : H3 <+: H11 := pre_keep q10 (fun j hj => f11 j (by omega)) (by omega)
  have w11 : Wr m H11 := fun id hid => hw id (by omega)
  have a52 := fun {m draw s d ts Q} => callT_at (m := m) (draw := draw) (s := s) (d := d) (ts := ts) (Q := Q) (f52 s11 (by omega) hgm)
  have hq : decide (1 + (offX lg lg.length : Int) < 0) = false := decide_eq_false (by omega)
  have hqq : decide (1 + (offX lg lg.length : Int) = 1 + (offX lg lg.length : Int)) = true := decide_eq_true rfl
  simp only [go_sem, ↓reduceIte, Nat.reduceEqDiff, reduceCtorEq, Nat.reduceAdd, Nat.reduceLeDiff, Nat.reduceMul, a52, w11, hq, hqq, decide_true, Bool.not_true]
  refine callT_nr (fun m' h hn => f40m (ha.preG (q3.trans q11)) hla hga h (hn.trans hnr)) rfl w11 fun r12 H12 x12 => ?_
  have w12 := w11.pre x12.pre
  simp only [go_sem, ↓reduceIte, Nat.reduceEqDiff, reduceCtorEq, Nat.reduceAdd, Nat.reduceLeDiff, Nat.reduceMul]
  refine callT_nr (fun m' h hn => f40m (hb.preG ((q3.trans q11).trans x12.pre)) hlb hgb h (hn.trans hnr)) rfl w12 fun r13 H13 x13 => ?_
  have w13 := w12.pre x13.pre
  simp only [go_sem, ↓reduceIte, Nat.reduceEqDiff, reduceCtorEq, Nat.reduceAdd, Nat.reduceLeDiff, Nat.reduceMul]
  refine callT_nr (fun m' h hn => f51 (x12.g.preG x13.pre) x13.g h (hn.trans hnr)) rfl w13 fun rh H14 ⟨p14, lh, gh, eh⟩ => ?_
  have w14 := w13.pre p14
  have sh := gh.g
  rw [eh] at sh
  have qq := x12.pre.trans (x13.pre.trans p14)
  have sw14 := sw.preG (q11.trans qq)
  have s14 : Sl (RX H14) 2 H14 rg (LX lg lg.length) := (s11.pre qq).frame (fun _ _ _ h => h.pre qq) fun _ _ _ _ _ _ => rfl
  have e42 := fun {m draw s d ts Q} => callT_at (m := m) (draw := draw) (s := s) (d := d) (ts := ts) (Q := Q) (f42 sh sw14)
  have b52 := fun {m draw s d ts Q} => callT_at (m := m) (draw := draw) (s := s) (d := d) (ts := ts) (Q := Q) (f52 s14 (by omega) hgm)
  simp only [go_sem, ↓reduceIte, Nat.reduceEqDiff, reduceCtorEq, Nat.reduceAdd, Nat.reduceLeDiff, Nat.reduceMul, e42, b52, w14, hq, hqq, decide_true, Bool.not_true]
end Go.Proofs.Ytdplmjlbkaipiaa.Ev
