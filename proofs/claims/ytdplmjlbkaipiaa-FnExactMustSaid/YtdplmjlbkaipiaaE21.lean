/- Slices that are one's own: writing into them, growing them. -/
import Derived.Test.YtdplmjlbkaipiaaE20
namespace Go.Proofs.Ytdplmjlbkaipiaa.Ev
set_option linter.all false
open Go

/-- A slice with a row of its own, from N on, from the row's start. -/
def OwnS (N : Nat) (v : Value) : Prop := v = .slice none 0 0 ∨ ∃ id e len cap, v = .slice (some ⟨id, 0, some e⟩) len cap ∧ N ≤ id

theorem take_drop_get (o : List Value) (p n j : Nat) : ((o.drop p).take n)[j]? = if j < n then o[p + j]? else none := by
  rw [List.getElem?_take]
  split <;> simp [List.getElem?_drop]

theorem spl_same {o cs : List Value} {p : Nat} (h : p + cs.length ≤ o.length) : ((spl o p cs).drop p).take cs.length = cs := by
  refine List.ext_getElem? fun j => ?_
  rw [take_drop_get]
  by_cases hj : j < cs.length
  · rw [if_pos hj, spl_get, if_pos (by omega), if_pos (by omega), show p + j - p = j by omega]
  · rw [if_neg hj, List.getElem?_eq_none (by omega)]

theorem spl_other {o cs : List Value} {p q n : Nat} (h : q + n ≤ p ∨ p + cs.length ≤ q) : ((spl o p cs).drop q).take n = (o.drop q).take n := by
  refine List.ext_getElem? fun j => ?_
  rw [take_drop_get, take_drop_get]
  by_cases hj : j < n
  · rw [if_pos hj, if_pos hj, spl_get, if_neg (by omega)]
  · rw [if_neg hj, if_neg hj]

theorem pre_set {H0 H : Hp} {id : Nat} {r : List Value} (h : H0 <+: H) (hid : H0.length ≤ id) : H0 <+: H.set id r := by
  obtain ⟨t, rfl⟩ := h
  exact ⟨t.set (id - H0.length) r, by rw [List.set_append_right _ _ hid]⟩

theorem pre_push {H0 H : Hp} {r : List Value} (h : H0 <+: H) : H0 <+: H ++ [r] := by
  obtain ⟨t, rfl⟩ := h
  exact ⟨t ++ [r], by simp⟩

theorem pre_take {H0 H : Hp} (h : H0 <+: H) : H.take H0.length = H0 := by
  obtain ⟨t, rfl⟩ := h
  simp

theorem pre_get {H0 H : Hp} (h : H0 <+: H) {id : Nat} (hid : id < H0.length) : H[id]? = H0[id]? := by
  obtain ⟨t, rfl⟩ := h
  rw [List.getElem?_append_left hid]

section
variable {α : Type} {R : α → List Value → Prop} {esz : Nat} {H : Hp} {v : Value} {l : List α}

/-- What a slice says of older rows stays. -/
theorem Sl.pre {H' : Hp} (h : Sl R esz H v l) (hp : H <+: H') : Sl R esz H' v l := by
  rcases h with ⟨rfl, rfl⟩ | ⟨id, off, cap, o, rfl, ho, hc, hn, hrm, hr⟩
  · exact .inl ⟨rfl, rfl⟩
  · exact .inr ⟨id, off, cap, o, rfl, by rw [pre_get hp (List.getElem?_eq_some_iff.1 ho).1]; exact ho, hc, hn, hrm, hr⟩

theorem Sl.ids (h : Sl R esz H v l) : ∀ id ∈ idsOf v, id < H.length := by
  rcases h with ⟨rfl, rfl⟩ | ⟨id, off, cap, o, rfl, ho, _⟩
  · simp [idsOf]
  · simp only [idsOf, List.mem_singleton]
    rintro _ rfl
    exact (List.getElem?_eq_some_iff.1 ho).1

theorem Sl.other {r : List Value} {id : Nat} (h : Sl R esz H v l) (hid : id ∉ idsOf v) : Sl R esz (H.set id r) v l := by
  rcases h with ⟨rfl, rfl⟩ | ⟨id', off, cap, o, rfl, ho, hc, hn, hrm, hr⟩
  · exact .inl ⟨rfl, rfl⟩
  · simp only [idsOf, List.mem_singleton] at hid
    exact .inr ⟨id', off, cap, o, rfl, by rw [List.getElem?_set_ne (by omega)]; exact ho, hc, hn, hrm, hr⟩

/-- Writing an element. -/
theorem Sl.store (h : Sl R esz H v l) {i : Nat} (hi : i < l.length) : ∃ id p o, H[id]? = some o ∧ p + esz ≤ o.length ∧ idsOf v = [id] ∧
    (∀ (s : St) (x y : X), exv s.ρ x = some v → exv s.ρ y = some (.int .i64 i) → iadrK s esz x y = some (.val (.pointer (some ⟨id, p, some o.length⟩)), s)) ∧
    ∀ a cs, cs.length = esz → R a cs → Sl R esz (H.set id (spl o p cs)) v (l.set i a) := by
  rcases h with ⟨rfl, rfl⟩ | ⟨id, off, cap, o, rfl, ho, hc, hn, hrm, hr⟩
  · simp at hi
  · have hm : (i + 1) * esz ≤ l.length * esz := Nat.mul_le_mul_right _ (by omega)
    rw [Nat.succ_mul] at hm
    have hid := (List.getElem?_eq_some_iff.1 ho).1
    refine ⟨id, off + i * esz, o, ho, by omega, rfl, fun s x y hx hy => ?_, fun a cs hcs hRa => .inr ⟨id, off, cap, spl o (off + i * esz) cs, by rw [List.length_set], by rw [List.getElem?_set_self hid], by rw [spl_length]; exact hc, by rw [List.length_set]; exact hn, by rw [List.length_set]; exact hrm, fun j b hj => ?_⟩⟩
    · unfold iadrK
      rw [hx, hy]
      simp only [Int.toNat_natCast, hc]
      rw [if_pos ⟨trivial, by omega, by omega⟩]
    · rw [List.getElem?_set] at hj
      split at hj
      · rename_i hij
        subst hij
        cases hj
        have := spl_same (o := o) (cs := cs) (p := off + i * esz) (by omega)
        rw [hcs] at this
        rw [this]
        exact hRa
      · rename_i hij
        rw [spl_other]
        · exact hr j b hj
        · rw [hcs]
          by_cases hlt : j < i
          · have : (j + 1) * esz ≤ i * esz := Nat.mul_le_mul_right _ (by omega)
            rw [Nat.succ_mul] at this
            exact .inl (by omega)
          · have : (i + 1) * esz ≤ j * esz := Nat.mul_le_mul_right _ (by omega)
            rw [Nat.succ_mul] at this
            exact .inr (by omega)

/-- A new slice of equal elements. -/
theorem make_sl {z : α} {zero : List Value} {n bytes : Nat} (hz : zero.length = esz) (hR : R z zero) (hn : n ≤ room) (hb : n * bytes ≤ room) :
    Sl R esz (H ++ [zeros n zero]) (.slice (some ⟨H.length, 0, some esz⟩) n (n * esz)) (List.replicate n z) ∧
    ∀ (s : St) (x y : X), s.H = H → exv s.ρ x = some (.int .i64 n) → exv s.ρ y = some (.int .i64 n) → makeSK s esz bytes zero x y = some (.val (.slice (some ⟨H.length, 0, some esz⟩) n (n * esz)), { s with H := H ++ [zeros n zero] }) := by
  have hlen : (zeros n zero).length = n * esz := by simp [zeros, hz]
  constructor
  · refine .inr ⟨H.length, 0, n * esz, zeros n zero, by rw [List.length_replicate], by rw [List.getElem?_append_right (Nat.le_refl _), Nat.sub_self]; rfl, by omega, by rw [List.length_replicate]; exact Nat.le_refl _, by rw [List.length_replicate]; unfold room at hn; omega, fun i a hi => ?_⟩
    rw [List.getElem?_replicate] at hi
    split at hi
    · rename_i hin
      cases hi
      have : ((zeros n zero).drop (0 + i * esz)).take esz = zero := by
        unfold zeros
        have := List.replicate_append_replicate (n := i) (m := n - i) (a := zero)
        rw [show i + (n - i) = n by omega] at this
        rw [← this, List.flatten_append, Nat.zero_add, List.drop_left' (by rw [List.length_flatten]; simp [hz]), show n - i = (n - i - 1) + 1 by omega, List.replicate_succ, List.flatten_cons, List.take_left' hz]
      rw [this]
      exact hR
    · cases hi
  · intro s x y hH hx hy
    unfold makeSK
    rw [hx, hy]
    simp only [Int.toNat_natCast, hH]
    unfold room at hn hb
    have hb2 : ((n * bytes : Nat) : Int) ≤ (140737488355328 : Int) := by omega
    rw [Int.natCast_mul] at hb2
    rw [if_pos ⟨by omega, by omega, hb2, by omega⟩]

end
end Go.Proofs.Ytdplmjlbkaipiaa.Ev
