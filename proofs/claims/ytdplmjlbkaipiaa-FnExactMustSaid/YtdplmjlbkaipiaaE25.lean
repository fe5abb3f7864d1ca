/- Growing a slice of one's own. -/
import Derived.Test.YtdplmjlbkaipiaaE24
namespace Go.Proofs.Ytdplmjlbkaipiaa.Ev
set_option linter.all false
open Go

section
variable {m : Md} {α : Type} {R : α → List Value → Prop} {esz : Nat} {H : Hp} {v : Value} {l : List α}

theorem Sl.app {N n bytes : Nat} {l2 : List α} {cs : List Value} (h : Sl R esz H v l) (ho : OwnS N v) (hN : N ≤ H.length) (hw : ∀ id, N ≤ id → m.wr id = true) (hnr : m.nr = true → cs.all scal = true) (hpos : 0 < l2.length) (hcs : cs.length = l2.length * esz)
    (hr : ∀ (i : Nat) a, l2[i]? = some a → R a ((cs.drop (i * esz)).take esz)) (hb : (l.length + l2.length) * bytes ≤ Ev.room) (hb2 : l.length + l2.length ≤ Ev.room) :
    ∃ v' H', (∀ (s : St) (x y : X), s.H = H → exv s.ρ x = some v → srcOf H esz (ex s.ρ y) = some (l2.length, cs) → appK m s esz bytes x y = some (.val v', { s with H := H' })) ∧ Sl R esz H' v' (l ++ l2) ∧ OwnS N v' ∧
      (∀ j, j < H.length → j ∉ idsOf v → H'[j]? = H[j]?) ∧ H.length ≤ H'.length ∧ (∀ j ∈ idsOf v', j ∈ idsOf v ∨ H.length ≤ j) ∧ ∀ H0 : Hp, H0.length ≤ N → H0 <+: H → H0 <+: H' := by
  have hb3 : l.length + l2.length ≤ 9223372036854775807 := by unfold Ev.room at hb2; omega
  rcases ho with rfl | ⟨id, e, ln, cap, rfl, hid⟩
  · have hl : l = [] := by
      rcases h with ⟨_, h⟩ | ⟨_, _, _, _, h, _⟩
      · exact h
      · cases h
    subst hl
    simp only [List.length_nil, Nat.zero_add] at hb hb2 hb3
    refine ⟨.slice (some ⟨H.length, 0, some esz⟩) l2.length (l2.length * esz), H ++ [cs], fun s x y hH hx hy => ?_, .inr ⟨H.length, 0, l2.length * esz, cs, by simp, by simp, by omega, by simp, by simpa using hb3, fun i a hi => ?_⟩,
      .inr ⟨_, _, _, _, rfl, hN⟩, fun j hj _ => by rw [List.getElem?_append_left hj], by simp, fun j hj => ?_, fun H0 _ hp => pre_push hp⟩
    · unfold appK
      rw [hx, hH, hy]
      simp only
      rw [if_neg (by omega), if_pos ⟨hb, hb2⟩]
    · rw [Nat.zero_add]
      exact hr i a (by simpa using hi)
    · simp [idsOf] at hj
      exact .inr (by omega)
  · rcases h with ⟨h, _⟩ | ⟨id', off, cap', o, h, hg, hoc, hlc, hroom, hrr⟩
    · cases h
    cases h
    have hidl := (List.getElem?_eq_some_iff.1 hg).1
    have hwid := hw id hid
    have hold : ∀ (q : List Value), (∀ k, k < l.length * esz → q[k]? = o[k]?) → ∀ (i : Nat) a, l[i]? = some a → R a ((q.drop (0 + i * esz)).take esz) := fun q hq i a hi => by
      have hil := (List.getElem?_eq_some_iff.1 hi).1
      have hm : (i + 1) * esz ≤ l.length * esz := Nat.mul_le_mul_right _ hil
      rw [Nat.succ_mul] at hm
      have : (q.drop (0 + i * esz)).take esz = (o.drop (0 + i * esz)).take esz := by
        refine List.ext_getElem? fun k => ?_
        rw [take_drop_get, take_drop_get]
        by_cases hk : k < esz
        · rw [if_pos hk, if_pos hk, hq _ (by omega)]
        · rw [if_neg hk, if_neg hk]
      rw [this]
      exact hrr i a hi
    have hnew : ∀ (q : List Value), (∀ k, k < cs.length → q[l.length * esz + k]? = cs[k]?) → ∀ (i : Nat) a, l2[i]? = some a → R a ((q.drop (0 + (l.length + i) * esz)).take esz) := fun q hq i a hi => by
      have hil := (List.getElem?_eq_some_iff.1 hi).1
      have hm : (i + 1) * esz ≤ l2.length * esz := Nat.mul_le_mul_right _ hil
      rw [Nat.succ_mul] at hm
      have : (q.drop (0 + (l.length + i) * esz)).take esz = (cs.drop (i * esz)).take esz := by
        refine List.ext_getElem? fun k => ?_
        rw [take_drop_get, take_drop_get]
        by_cases hk : k < esz
        · rw [if_pos hk, if_pos hk, Nat.zero_add, Nat.add_mul, Nat.add_assoc, hq _ (by omega)]
        · rw [if_neg hk, if_neg hk]
      rw [this]
      exact hr i a hi
    have both : ∀ (q : List Value), (∀ k, k < l.length * esz → q[k]? = o[k]?) → (∀ k, k < cs.length → q[l.length * esz + k]? = cs[k]?) → ∀ (i : Nat) a, (l ++ l2)[i]? = some a → R a ((q.drop (0 + i * esz)).take esz) := fun q h1 h2 i a hi => by
      by_cases hil : i < l.length
      · rw [List.getElem?_append_left hil] at hi
        exact hold q h1 i a hi
      · rw [List.getElem?_append_right (by omega)] at hi
        have := hnew q h2 _ a hi
        rw [show l.length + (i - l.length) = i by omega] at this
        exact this
    by_cases hfit : (l.length + l2.length) * esz ≤ cap
    · have hfit' : l.length * esz + cs.length ≤ cap := by rw [hcs, ← Nat.add_mul]; exact hfit
      refine ⟨.slice (some ⟨id, 0, some esz⟩) (l.length + l2.length) cap, H.set id (spl o (0 + l.length * esz) cs), fun s x y hH hx hy => ?_, .inr ⟨id, 0, cap, _, by rw [List.length_append], by rw [List.getElem?_set_self hidl], by rw [spl_length]; exact hoc, by rw [List.length_append]; exact hfit, by rw [List.length_append]; exact hb3,
        both _ (fun k hk => ?_) (fun k hk => ?_)⟩, .inr ⟨_, _, _, _, rfl, hid⟩, fun j hj hne => ?_, by simp, fun j hj => .inl hj, fun H0 h0 hp => pre_set hp (by omega)⟩
      · unfold appK
        rw [hx, hH, hy]
        simp only
        rw [if_neg (by omega), hg]
        simp only
        rw [if_pos ⟨trivial, hoc, hwid, hnr⟩, if_pos hfit]
      · rw [spl_get, if_neg (by omega)]
      · rw [spl_get, if_pos (by omega), if_pos (by omega)]
        congr 1
        omega
      · rw [List.getElem?_set_ne]
        simp [idsOf] at hne
        omega
    · have htl : (o.take (l.length * esz)).length = l.length * esz := by rw [List.length_take]; omega
      refine ⟨.slice (some ⟨id, 0, some esz⟩) (l.length + l2.length) ((l.length + l2.length) * esz), H.set id (o.take (l.length * esz) ++ cs), fun s x y hH hx hy => ?_, .inr ⟨id, 0, _, _, by rw [List.length_append], by rw [List.getElem?_set_self hidl], by rw [List.length_append, htl, hcs, ← Nat.add_mul, Nat.zero_add], by rw [List.length_append]; exact Nat.le_refl _, by rw [List.length_append]; exact hb3,
        both _ (fun k hk => ?_) (fun k hk => ?_)⟩, .inr ⟨_, _, _, _, rfl, hid⟩, fun j hj hne => ?_, by simp, fun j hj => .inl hj, fun H0 h0 hp => pre_set hp (by omega)⟩
      · unfold appK
        rw [hx, hH, hy]
        simp only
        rw [if_neg (by omega), hg]
        simp only
        rw [if_pos ⟨trivial, hoc, hwid, hnr⟩, if_neg hfit, if_pos ⟨trivial, by omega, hb, hb2⟩]
      · rw [List.getElem?_append_left (by omega), List.getElem?_take, if_pos hk]
      · rw [List.getElem?_append_right (by omega), htl, show l.length * esz + k - l.length * esz = k by omega]
      · rw [List.getElem?_set_ne]
        simp [idsOf] at hne
        omega

theorem Sl.src (h : Sl R esz H v l) : ∃ cs, srcOf H esz (.val v) = some (l.length, cs) ∧ cs.length = l.length * esz ∧ ∀ (i : Nat) a, l[i]? = some a → R a ((cs.drop (i * esz)).take esz) := by
  rcases h with ⟨rfl, rfl⟩ | ⟨id, off, cap, o, rfl, hg, hoc, hlc, hroom, hrr⟩
  · exact ⟨[], rfl, by simp, fun i a hi => by simp at hi⟩
  · refine ⟨(o.drop off).take (l.length * esz), ?_, by rw [List.length_take, List.length_drop]; omega, fun i a hi => ?_⟩
    · simp only [srcOf, rowOf, hg]
      rw [if_pos hoc]
      simp only
      rw [if_pos ⟨trivial, by omega⟩]
    · have hil := (List.getElem?_eq_some_iff.1 hi).1
      have hm : (i + 1) * esz ≤ l.length * esz := Nat.mul_le_mul_right _ hil
      rw [Nat.succ_mul] at hm
      have : (((o.drop off).take (l.length * esz)).drop (i * esz)).take esz = (o.drop (off + i * esz)).take esz := by
        refine List.ext_getElem? fun k => ?_
        rw [take_drop_get ((o.drop off).take (l.length * esz)) (i * esz) esz k, take_drop_get o (off + i * esz) esz k]
        by_cases hk : k < esz
        · rw [if_pos hk, if_pos hk, take_drop_get, if_pos (by omega), Nat.add_assoc]
        · rw [if_neg hk, if_neg hk]
      rw [this]
      exact hrr i a hi

theorem Sl.copy {bytes : Nat} (h : Sl R esz H v l) (hb : l.length * bytes ≤ Ev.room) (hb2 : l.length ≤ Ev.room) :
    ∃ v' H', (∀ (s : St) (x y : X), s.H = H → exv s.ρ x = some (.slice none 0 0) → ex s.ρ y = .val v → appK m s esz bytes x y = some (.val v', { s with H := H' })) ∧ H <+: H' ∧ Sl R esz H' v' l ∧ OwnS H.length v' := by
  obtain ⟨cs, h1, h2, h3⟩ := h.src
  by_cases h0 : l.length = 0
  · have hl : l = [] := List.eq_nil_of_length_eq_zero h0
    subst hl
    refine ⟨.slice none 0 0, H, fun s x y hH hx hy => ?_, List.prefix_refl _, .inl ⟨rfl, rfl⟩, .inl rfl⟩
    subst hH
    unfold appK
    rw [hx, hy, h1]
    rfl
  · refine ⟨.slice (some ⟨H.length, 0, some esz⟩) l.length (l.length * esz), H ++ [cs], fun s x y hH hx hy => ?_, List.prefix_append _ _, .inr ⟨H.length, 0, l.length * esz, cs, rfl, by simp, by omega, Nat.le_refl _, by unfold Ev.room at hb2; omega, fun i a hi => ?_⟩, .inr ⟨_, _, _, _, rfl, Nat.le_refl _⟩⟩
    · unfold appK
      rw [hx, hH, hy, h1]
      simp only
      rw [if_neg h0, if_pos ⟨hb, hb2⟩]
    · rw [Nat.zero_add]
      exact h3 i a hi

end
end Go.Proofs.Ytdplmjlbkaipiaa.Ev
