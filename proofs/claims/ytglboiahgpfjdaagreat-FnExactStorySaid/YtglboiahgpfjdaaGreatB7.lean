/- Texts of this proof, laid one behind the other: what each shows stands at its head. -/
import Derived.Test.YtglboiahgpfjdaaGreatB3
import Derived.Test.YtglboiahgpfjdaaGreatB6
/- Numbers as texts of digits, both ways. -/
namespace Go.Proofs.YtglboiahgpfjdaaGreat.Ev
set_option linter.all false
open Go
set_option maxRecDepth 4000

def stN (n : Int) : Int := IntKind.i64.wrap (n.tdiv 10)
def nth (n : Int) : Nat → Int
  | 0 => n
  | k + 1 => stN (nth n k)
theorem wrap_in (n : Int) : -9223372036854775808 ≤ IntKind.i64.wrap n ∧ IntKind.i64.wrap n < 9223372036854775808 := by
  simp [IntKind.wrap, IntKind.bits, IntKind.signed]
  omega
theorem tdiv_abs (n : Int) : (n.tdiv 10).natAbs = n.natAbs / 10 := by
  rw [Int.natAbs_tdiv]
  rfl
theorem stN_le {n : Int} (h : n.natAbs ≤ 9223372036854775808) : (stN n).natAbs = n.natAbs / 10 := by
  unfold stN
  have h1 := tdiv_abs n
  rw [wrap64 _ (by omega) (by omega), h1]
theorem nth_le (n : Int) : ∀ k, (nth n (k + 1)).natAbs ≤ 9223372036854775808 / 10 ^ k
  | 0 => by
    have := wrap_in ((nth n 0).tdiv 10)
    show (stN (nth n 0)).natAbs ≤ _
    unfold stN
    simp only [Nat.pow_zero, Nat.div_one]
    omega
  | k + 1 => by
    have h := nth_le n k
    have h2 : (nth n (k + 1)).natAbs ≤ 9223372036854775808 := Nat.le_trans h (Nat.div_le_self _ _)
    show (stN (nth n (k + 1))).natAbs ≤ _
    rw [stN_le h2, Nat.pow_succ, ← Nat.div_div_eq_div_mul]
    exact Nat.div_le_div_right h
theorem nth_20 (n : Int) : nth n 20 = 0 := by
  have := nth_le n 19
  have h : 9223372036854775808 / 10 ^ 19 = 0 := by decide
  rw [h] at this
  exact Int.natAbs_eq_zero.1 (Nat.le_zero.1 this)
theorem nth_ex (n : Int) : ∃ K, K ≤ 20 ∧ nth n K = 0 ∧ ∀ k, k < K → nth n k ≠ 0 := by
  have : ∀ m, (∃ K, K ≤ m ∧ nth n K = 0 ∧ ∀ k, k < K → nth n k ≠ 0) ∨ ∀ k, k ≤ m → nth n k ≠ 0 := fun m => by
    induction m with
    | zero =>
      by_cases h : nth n 0 = 0
      · exact .inl ⟨0, Nat.le_refl _, h, fun k hk => by omega⟩
      · exact .inr fun k hk => by have : k = 0 := by omega
                                  subst this; exact h
    | succ m ih =>
      rcases ih with ⟨K, h1, h2, h3⟩ | h
      · exact .inl ⟨K, by omega, h2, h3⟩
      · by_cases h4 : nth n (m + 1) = 0
        · exact .inl ⟨m + 1, Nat.le_refl _, h4, fun k hk => h k (by omega)⟩
        · exact .inr fun k hk => by
            by_cases e : k = m + 1
            · subst e; exact h4
            · exact h k (by omega)
  rcases this 20 with h | h
  · exact h
  · exact absurd (nth_20 n) (h 20 (Nat.le_refl _))
noncomputable def cntN (n : Int) : Nat := Classical.choose (nth_ex n)
theorem cntN_sp (n : Int) : cntN n ≤ 20 ∧ nth n (cntN n) = 0 ∧ ∀ k, k < cntN n → nth n k ≠ 0 := Classical.choose_spec (nth_ex n)
def dig (n : Int) : Nat := 48 + (n.tmod 10).natAbs
theorem dig_lt (n : Int) : dig n < 58 := by
  unfold dig
  have : (n.tmod 10).natAbs = n.natAbs % 10 := by rw [Int.natAbs_tmod]; rfl
  omega
/-- The digits, the last first. -/
noncomputable def dgs (n : Int) : List Nat := (List.range (cntN n)).map fun k => dig (nth n k)
noncomputable def decL (n : Int) : List Nat := if n = 0 then [48] else (if n < 0 then [45] else []) ++ (dgs n).reverse
noncomputable def decB (n : Int) : ByteArray := strOf (decL n)
theorem dgs_len (n : Int) : (dgs n).length = cntN n := by simp [dgs]
theorem decL_len (n : Int) : (decL n).length ≤ 21 := by
  unfold decL
  have := (cntN_sp n).1
  split
  · simp
  · split <;> simp [dgs_len] <;> omega
theorem decB_len (n : Int) : (decB n).size ≤ 21 := by
  unfold decB
  rw [strOf_size]
  exact decL_len n
theorem dgs_lt {n : Int} : ∀ x ∈ dgs n, x < 58 := fun x hx => by
  unfold dgs at hx
  obtain ⟨k, _, rfl⟩ := List.mem_map.1 hx
  exact dig_lt _
theorem strOf_app (a b : List Nat) : strOf (a ++ b) = strOf a ++ strOf b := by
  unfold strOf
  rw [List.map_append]
  rfl
theorem dig_u8 (n : Int) : IntKind.u8.wrap (IntKind.i64.wrap (48 + (if n.tmod 10 < 0 then IntKind.i64.wrap (0 - n.tmod 10) else n.tmod 10))) = (dig n : Int) := by
  have h := dig_lt n
  unfold dig at h ⊢
  have e : (if n.tmod 10 < 0 then IntKind.i64.wrap (0 - n.tmod 10) else n.tmod 10) = ((n.tmod 10).natAbs : Int) := by
    split
    · rw [wrap64 _ (by omega) (by omega)]; omega
    · omega
  rw [e, wrap64 _ (by omega) (by omega)]
  simp [IntKind.wrap, IntKind.bits, IntKind.signed]
  omega
theorem dgs_succ {n : Int} {i : Nat} : ((List.range (i + 1)).map fun k => dig (nth n k)) = ((List.range i).map fun k => dig (nth n k)) ++ [dig (nth n i)] := by
  rw [List.range_succ, List.map_append]
  rfl

theorem byte1 {b : Nat} (h : b < 256) : bytesOf [Value.int .u8 (b : Int)] = some [UInt8.ofNat b] := by
  have := bytesOf_map (l := [b]) (by simpa using h)
  simpa using this
theorem own1 {H : Hp} {a : Nat} : SlN (H ++ [[.int .u8 (a : Int)]]) (.slice (some ⟨H.length, 0, some 1⟩) 1 (1 * 1)) [a] := .inr ⟨H.length, 0, 1, [.int .u8 (a : Int)], rfl, by simp, by simp, by simp, by simp, fun i b hi => by
  cases i with
  | zero => simp at hi; subst hi; rfl
  | succ i => simp at hi⟩
theorem f49 {H : Hp} {n : Int} : Scal EE 49 [.int .i64 n] H (.string (decB n)) := by
  refine scal_ok rfl rfl k49 (by simp [c49]) rfl fun m hw => ?_
  obtain ⟨hK, h0, hne⟩ := cntN_sp n
  simp only [go_sem, ↓reduceIte, Nat.reduceEqDiff, reduceCtorEq, Nat.reduceAdd, Nat.reduceLeDiff, Nat.reduceMul, c49]
  cases q0 : decide (n = 0) <;> simp only [go_sem, ↓reduceIte, Nat.reduceEqDiff, reduceCtorEq, Nat.reduceAdd, Nat.reduceLeDiff, Nat.reduceMul, q0]
  rotate_left
  · have := of_decide_eq_true q0
    subst this
    rfl
  have hn0 : ¬ n = 0 := of_decide_eq_false q0
  refine go_for (cntN n) (fun i s => H <+: s.H ∧ s.ρ 0 = .val (.int .i64 (nth n i)) ∧ s.ρ 4 = .val (.bool (decide (n < 0))) ∧ s.ρ 3 = .val (.string (strOf ((List.range i).map fun k => dig (nth n k)).reverse)))
    (fun s => H <+: s.H ∧ s.ρ 4 = .val (.bool (decide (n < 0))) ∧ s.ρ 3 = .val (.string (strOf (dgs n).reverse))) ?_ ?_ ?_
  · exact ⟨List.prefix_refl _, by simp [upd, ini, nth], by simp [upd], by simp [upd, strOf]⟩
  · rintro i s hi ⟨hH, k0, k4, k3⟩
    simp only [go_sem, ↓reduceIte, Nat.reduceEqDiff, reduceCtorEq, Nat.reduceAdd, Nat.reduceLeDiff, Nat.reduceMul, k0, k4, k3]
    cases q1 : decide (nth n i = 0) <;> simp only [go_sem, ↓reduceIte, Nat.reduceEqDiff, reduceCtorEq, Nat.reduceAdd, Nat.reduceLeDiff, Nat.reduceMul, k0, k4, k3, q1]
    rotate_left
    · have e1 := of_decide_eq_true q1
      have : i = cntN n := by
        by_cases e : i < cntN n
        · exact absurd e1 (hne i e)
        · omega
      subst this
      exact ⟨hH, rfl⟩
    have e1 := of_decide_eq_false q1
    have hil : i < cntN n := by
      by_cases e : i < cntN n
      · exact e
      · have : i = cntN n := by omega
        subst this
        exact absurd h0 e1
    have hd := dig_u8 (nth n i)
    have hb := byte1 (show dig (nth n i) < 256 by have := dig_lt (nth n i); omega)
    have hsz : 1 + (List.map (fun k => dig (nth n k)) (List.range i)).reverse.length ≤ 9223372036854775807 := by simp; omega
    have w2 : Wr m s.H := hw.pre hH
    have ne : ((10 : Int) = 0) = False := by simp
    have hrev : (List.map (fun k => dig (nth n k)) (List.range (i + 1))).reverse = dig (nth n i) :: (List.map (fun k => dig (nth n k)) (List.range i)).reverse := by rw [dgs_succ, List.reverse_append]; rfl
    have hst : strOf (dig (nth n i) :: (List.map (fun k => dig (nth n k)) (List.range i)).reverse) = strOf [dig (nth n i)] ++ strOf (List.map (fun k => dig (nth n k)) (List.range i)).reverse := strOf_app [_] _
    simp only [go_sem, ↓reduceIte, Nat.reduceEqDiff, reduceCtorEq, Nat.reduceAdd, Nat.reduceLeDiff, Nat.reduceMul, k0, k4, k3, ne]
    have hsl := own1 (H := s.H) (a := dig (nth n i))
    have hb2 := hsl.b2s (fun x hx => by simp only [List.mem_singleton] at hx; subst hx; have := dig_lt (nth n i); omega)
    have hs1 : (strOf [dig (nth n i)]).size + (strOf (List.map (fun k => dig (nth n k)) (List.range i)).reverse).size ≤ 9223372036854775807 := by rw [strOf_size, strOf_size]; simp; omega
    have fin : strOf [dig (nth n i)] ++ strOf (List.map (fun k => dig (nth n k)) (List.range i)).reverse = strOf (List.map (fun k => dig (nth n k)) (List.range i ++ [i])).reverse := by rw [← List.range_succ, hrev, hst]
    cases q2 : decide ((nth n i).tmod 10 < 0) <;> simp only [go_sem, ↓reduceIte, Nat.reduceEqDiff, reduceCtorEq, Nat.reduceAdd, Nat.reduceLeDiff, Nat.reduceMul, k0, k4, k3, q2]
    · rw [if_neg (of_decide_eq_false q2)] at hd
      simp only [go_sem, ↓reduceIte, Nat.reduceEqDiff, reduceCtorEq, Nat.reduceAdd, Nat.reduceLeDiff, Nat.reduceMul, k0, k4, k3, hd, hb2, hs1, ne]
      exact ⟨hil, hH.trans (List.prefix_append _ _), rfl, by rw [fin]⟩
    · rw [if_pos (of_decide_eq_true q2)] at hd
      simp only [go_sem, ↓reduceIte, Nat.reduceEqDiff, reduceCtorEq, Nat.reduceAdd, Nat.reduceLeDiff, Nat.reduceMul, k0, k4, k3, hd, hb2, hs1, ne]
      exact ⟨hil, hH.trans (List.prefix_append _ _), rfl, by rw [fin]⟩
  · rintro s ⟨hH, k4, k3⟩
    have htk : s.H.take H.length = H := (List.prefix_iff_eq_take.1 hH).symm
    have e1 : decL n = (if n < 0 then [45] else []) ++ (dgs n).reverse := by unfold decL; rw [if_neg hn0]
    have hs2 : (strOf [45]).size + (strOf (dgs n).reverse).size ≤ 9223372036854775807 := by rw [strOf_size, strOf_size]; simp [dgs_len]; omega
    have h45 : strOf [45] = ⟨#[45]⟩ := rfl
    rw [h45] at hs2
    simp only [go_sem, ↓reduceIte, Nat.reduceEqDiff, reduceCtorEq, Nat.reduceAdd, Nat.reduceLeDiff, Nat.reduceMul, k4, k3]
    cases q1 : decide (n < 0) <;> simp only [go_sem, ↓reduceIte, Nat.reduceEqDiff, reduceCtorEq, Nat.reduceAdd, Nat.reduceLeDiff, Nat.reduceMul, q1, k3, hs2]
    · rw [if_neg (of_decide_eq_false q1)] at e1
      refine ⟨?_, htk⟩
      unfold decB
      rw [e1]
      rfl
    · rw [if_pos (of_decide_eq_true q1)] at e1
      refine ⟨?_, htk⟩
      unfold decB
      rw [e1, strOf_app, h45]

/-- Two bytes that change places. -/
theorem iadr_eq {esz i : Nat} {v : Value} {a b : Option Addr} (h1 : ∀ (s : St) (x y : X), exv s.ρ x = some v → exv s.ρ y = some (.int .i64 i) → iadrK s esz x y = some (.val (.pointer a), s)) (h2 : ∀ (s : St) (x y : X), exv s.ρ x = some v → exv s.ρ y = some (.int .i64 i) → iadrK s esz x y = some (.val (.pointer b), s)) : a = b := by
  have e1 := h1 { ρ := fun t => if t = 0 then .val v else .val (.int .i64 i), gn := 0, H := [] } (.t 0) (.t 1) rfl rfl
  have e2 := h2 { ρ := fun t => if t = 0 then .val v else .val (.int .i64 i), gn := 0, H := [] } (.t 0) (.t 1) rfl rfl
  rw [e1] at e2
  simp only [Option.some.injEq, Prod.mk.injEq, FV.val.injEq, Value.pointer.injEq, and_true] at e2
  exact e2
theorem Sl.swapN {H : Hp} {v : Value} {L : List Nat} (h : SlN H v L) {i j : Nat} (hi : i < L.length) (hj : j < L.length) : ∃ id pi pj o, H[id]? = some o ∧ o[pi]? = some (.int .u8 (L[i] : Int)) ∧ o[pj]? = some (.int .u8 (L[j] : Int)) ∧ pi + 1 ≤ o.length ∧ pj + 1 ≤ o.length ∧ idsOf v = [id] ∧ id < H.length ∧
    (∀ (s : St) (x y : X), exv s.ρ x = some v → exv s.ρ y = some (.int .i64 i) → iadrK s 1 x y = some (.val (.pointer (some ⟨id, pi, some o.length⟩)), s)) ∧
    (∀ (s : St) (x y : X), exv s.ρ x = some v → exv s.ρ y = some (.int .i64 j) → iadrK s 1 x y = some (.val (.pointer (some ⟨id, pj, some o.length⟩)), s)) ∧
    SlN (H.set id (spl (spl o pi [.int .u8 (L[j] : Int)]) pj [.int .u8 (L[i] : Int)])) v ((L.set i L[j]).set j L[i]) := by
  obtain ⟨id, p, o, ho, hp, hid, hr, hia, hst⟩ := h.both hi
  obtain ⟨id', p', o', ho', hp', hid', hr', hia', hst'⟩ := h.both hj
  have e1 : id' = id := by rw [hid] at hid'; simpa using hid'.symm
  subst e1
  rw [ho] at ho'
  cases ho'
  have hidl := (List.getElem?_eq_some_iff.1 ho).1
  have s1 := hst L[j] (eN L[j]) rfl rfl
  obtain ⟨id2, p2, o2, c1, c2, c3, c4, c5, c6⟩ := s1.both (i := j) (by rw [List.length_set]; exact hj)
  have e2 : id2 = id' := by rw [hid] at c3; simpa using c3.symm
  subst e2
  rw [List.getElem?_set_self hidl] at c1
  cases c1
  have hpt := iadr_eq hia' c5
  simp only [Option.some.injEq, Addr.mk.injEq] at hpt
  have e3 : p2 = p' := hpt.2.1.symm
  subst e3
  have s2 := c6 L[i] (eN L[i]) rfl rfl
  rw [List.set_set] at s2
  refine ⟨id2, p, p2, o, ho, ?_, ?_, hp, hp', hid, hidl, hia, hia', s2⟩
  · unfold En at hr
    simpa [eN] using getElem?_of_take hr (j := 0) (by omega)
  · unfold En at hr'
    simpa [eN] using getElem?_of_take hr' (j := 0) (by omega)

theorem rev_step {L L' : List Nat} {i : Nat} (hl : L'.length = L.length) (hi : i + i + 1 < L.length) (h : ∀ x, (hx : x < L.length) → L'[x]? = if x < i ∨ L.length - i ≤ x then L[L.length - 1 - x]? else L[x]?) :
    ∀ x, (hx : x < L.length) → ((L'.set i (L'[L.length - 1 - i]'(by omega))).set (L.length - 1 - i) (L'[i]'(by omega)))[x]? = if x < i + 1 ∨ L.length - (i + 1) ≤ x then L[L.length - 1 - x]? else L[x]? := fun x hx => by
  have a1 := h i (by omega)
  have a2 := h (L.length - 1 - i) (by omega)
  rw [if_neg (by omega), List.getElem?_eq_getElem (show i < L'.length by omega)] at a1
  rw [if_neg (by omega), List.getElem?_eq_getElem (show L.length - 1 - i < L'.length by omega)] at a2
  rw [List.getElem?_set, List.length_set, List.getElem?_set]
  by_cases e1 : L.length - 1 - i = x
  · rw [if_pos e1, if_pos (by omega), if_pos (by omega), a1]
    congr 1
    omega
  · rw [if_neg e1]
    by_cases e2 : i = x
    · rw [if_pos e2, if_pos (by omega), if_pos (by omega), a2]
      congr 1
      omega
    · rw [if_neg e2, h x hx]
      by_cases e3 : x < i ∨ L.length - i ≤ x
      · rw [if_pos e3, if_pos (by omega)]
      · rw [if_neg e3, if_neg (by omega)]
theorem rev_end {L L' : List Nat} {i : Nat} (hl : L'.length = L.length) (hi : ¬ i + i + 1 < L.length) (h : ∀ x, (hx : x < L.length) → L'[x]? = if x < i ∨ L.length - i ≤ x then L[L.length - 1 - x]? else L[x]?) : L' = L.reverse := by
  refine List.ext_getElem? fun x => ?_
  by_cases hx : x < L.length
  · rw [h x hx, List.getElem?_reverse hx]
    split
    · rfl
    · congr 1
      omega
  · rw [List.getElem?_eq_none (by omega), List.getElem?_eq_none (by simp; omega)]

theorem f90 {H : Hp} {n : Int} : Scal EE 90 [.int .i64 n] H (.string (decB n)) := by
  refine scal_ok rfl rfl k90 (by simp [c90]) rfl fun m hw => ?_
  obtain ⟨hK, h0, hne⟩ := cntN_sp n
  simp only [go_sem, ↓reduceIte, Nat.reduceEqDiff, reduceCtorEq, Nat.reduceAdd, Nat.reduceLeDiff, Nat.reduceMul, c90]
  cases q0 : decide (n = 0) <;> simp only [go_sem, ↓reduceIte, Nat.reduceEqDiff, reduceCtorEq, Nat.reduceAdd, Nat.reduceLeDiff, Nat.reduceMul, q0]
  rotate_left
  · have := of_decide_eq_true q0
    subst this
    rfl
  have hn0 : ¬ n = 0 := of_decide_eq_false q0
  have ne : ((10 : Int) = 0) = False := by simp
  have e1 : decL n = (if n < 0 then [45] else []) ++ (dgs n).reverse := by unfold decL; rw [if_neg hn0]
  refine go_for (cntN n) (fun i s => H <+: s.H ∧ s.ρ 0 = .val (.int .i64 n) ∧ s.ρ 4 = .val (.int .i64 (nth n i)) ∧ ∃ v, s.ρ 3 = .val v ∧ SlN s.H v ((List.range i).map fun k => dig (nth n k)) ∧ OwnS H.length v)
    (fun s => H <+: s.H ∧ s.ρ 0 = .val (.int .i64 n) ∧ ∃ v, s.ρ 3 = .val v ∧ SlN s.H v (dgs n) ∧ OwnS H.length v) ?_ ?_ ?_
  · exact ⟨List.prefix_append _ _, by simp [upd, ini], by simp [upd, nth], _, by simp [upd], own_newN, .inr ⟨_, _, _, _, rfl, Nat.le_refl _⟩⟩
  · rintro i s hi ⟨hH, k0, k4, v, k3, hs, ho⟩
    simp only [go_sem, ↓reduceIte, Nat.reduceEqDiff, reduceCtorEq, Nat.reduceAdd, Nat.reduceLeDiff, Nat.reduceMul, k0, k4, k3]
    cases q1 : decide (nth n i = 0) <;> simp only [go_sem, ↓reduceIte, Nat.reduceEqDiff, reduceCtorEq, Nat.reduceAdd, Nat.reduceLeDiff, Nat.reduceMul, k0, k4, k3, q1]
    rotate_left
    · have e1 := of_decide_eq_true q1
      have : i = cntN n := by
        by_cases e : i < cntN n
        · exact absurd e1 (hne i e)
        · omega
      subst this
      exact ⟨hH, v, rfl, hs, ho⟩
    have e1 := of_decide_eq_false q1
    have hil : i < cntN n := by
      by_cases e : i < cntN n
      · exact e
      · have : i = cntN n := by omega
        subst this
        exact absurd h0 e1
    have hd := dig_u8 (nth n i)
    obtain ⟨v', H', ha, hs', ho', hf, hn, hids, hpre⟩ := hs.oneN (m := m) (dig (nth n i)) ho hH.length_le hw (by simp; omega)
    have hs2 : SlN H' v' ((List.range (i + 1)).map fun k => dig (nth n k)) := by rw [dgs_succ]; exact hs'
    rw [List.range_succ] at hs2
    have hp2 := hpre H (Nat.le_refl _) hH
    simp only [go_sem, ↓reduceIte, Nat.reduceEqDiff, reduceCtorEq, Nat.reduceAdd, Nat.reduceLeDiff, Nat.reduceMul, k0, k4, k3, ne]
    cases q2 : decide ((nth n i).tmod 10 < 0) <;> simp only [go_sem, ↓reduceIte, Nat.reduceEqDiff, reduceCtorEq, Nat.reduceAdd, Nat.reduceLeDiff, Nat.reduceMul, k0, k4, k3, q2]
    · rw [if_neg (of_decide_eq_false q2)] at hd
      simp only [go_sem, ↓reduceIte, Nat.reduceEqDiff, reduceCtorEq, Nat.reduceAdd, Nat.reduceLeDiff, Nat.reduceMul, k0, k4, k3, hd, ha, ne]
      exact ⟨hil, hp2, rfl, v', rfl, hs2, ho'⟩
    · rw [if_pos (of_decide_eq_true q2)] at hd
      simp only [go_sem, ↓reduceIte, Nat.reduceEqDiff, reduceCtorEq, Nat.reduceAdd, Nat.reduceLeDiff, Nat.reduceMul, k0, k4, k3, hd, ha, ne]
      exact ⟨hil, hp2, rfl, v', rfl, hs2, ho'⟩
  · rintro s ⟨hH, k0, v, k3, hs, ho⟩
    simp only [go_sem, ↓reduceIte, Nat.reduceEqDiff, reduceCtorEq, Nat.reduceAdd, Nat.reduceLeDiff, Nat.reduceMul, k0, k3]
    generalize hL : (dgs n) ++ (if n < 0 then [45] else []) = L
    have hLr : L.reverse = decL n := by
      rw [← hL, e1, List.reverse_append]
      congr 1
      split <;> rfl
    have hKp : 0 < cntN n := by
      cases hc : cntN n with
      | zero => rw [hc] at h0; exact absurd h0 hn0
      | succ k => omega
    have hLl : 0 < L.length ∧ L.length ≤ 21 := by
      rw [← hL, List.length_append, dgs_len]
      split <;> simp <;> omega
    have hLb : ∀ x ∈ L, x < 256 := fun x hx => by
      rw [← hL, List.mem_append] at hx
      rcases hx with hx | hx
      · have := dgs_lt x hx; omega
      · split at hx
        · simp only [List.mem_singleton] at hx; omega
        · simp at hx
    refine brT_join (fun t => H <+: t.H ∧ ∃ v, t.ρ 3 = .val v ∧ SlN t.H v L ∧ OwnS H.length v) (fun q1 => ?_) (fun q1 => ?_) fun t ⟨tH, w, t3, ts, to⟩ => ?_
    · obtain ⟨v', H', ha, hs', ho', hf, hn, hids, hpre⟩ := hs.oneN (m := m) 45 ho hH.length_le hw (by rw [dgs_len]; omega)
      rw [if_pos (of_decide_eq_true q1)] at hL
      rw [hL] at hs'
      have h45 : ((45 : Nat) : Int) = 45 := rfl
      rw [h45] at ha
      simp only [go_sem, ↓reduceIte, Nat.reduceEqDiff, reduceCtorEq, Nat.reduceAdd, Nat.reduceLeDiff, Nat.reduceMul, k3, ha]
      exact ⟨hpre H (Nat.le_refl _) hH, v', rfl, hs', ho'⟩
    · rw [if_neg (of_decide_eq_false q1), List.append_nil] at hL
      rw [hL] at hs
      simp only [go_sem, ↓reduceIte, Nat.reduceEqDiff, reduceCtorEq, Nat.reduceAdd, Nat.reduceLeDiff, Nat.reduceMul, k3]
      exact ⟨hH, v, rfl, hs, ho⟩
    simp only [go_sem, ↓reduceIte, Nat.reduceEqDiff, reduceCtorEq, Nat.reduceAdd, Nat.reduceLeDiff, Nat.reduceMul, t3, ts.len, wrap64 ((L.length : Int) - 1) (by omega) (by omega)]
    refine go_for L.length (fun i t => H <+: t.H ∧ t.ρ 3 = .val w ∧ t.ρ 6 = .val (.int .i64 i) ∧ t.ρ 7 = .val (.int .i64 ((L.length : Int) - 1 - i)) ∧ ∃ L', SlN t.H w L' ∧ L'.length = L.length ∧ ∀ x, (hx : x < L.length) → L'[x]? = if x < i ∨ L.length - i ≤ x then L[L.length - 1 - x]? else L[x]?)
      (fun t => H <+: t.H ∧ t.ρ 3 = .val w ∧ SlN t.H w L.reverse) ?_ ?_ ?_
    · exact ⟨tH, by simp [upd, t3], by simp [upd], by simp [upd], L, ts, rfl, fun x hx => by rw [if_neg (by omega)]⟩
    · rintro i t hi ⟨tH, k3, k6, k7, L', hs', hl', hx'⟩
      simp only [go_sem, ↓reduceIte, Nat.reduceEqDiff, reduceCtorEq, Nat.reduceAdd, Nat.reduceLeDiff, Nat.reduceMul, k3, k6, k7]
      refine brT.intro (fun q1 => ?_) (fun q1 => ?_) <;> simp only [go_sem, ↓reduceIte, Nat.reduceEqDiff, reduceCtorEq, Nat.reduceAdd, Nat.reduceLeDiff, Nat.reduceMul, k3, k6, k7]
      rotate_left
      · have := rev_end hl' (by have := of_decide_eq_false q1; omega) hx'
        subst this
        exact ⟨tH, hs'⟩
      have hil : i + i + 1 < L.length := by have := of_decide_eq_true q1; omega
      have ej : ((L.length : Int) - 1 - (i : Int)) = ((L.length - 1 - i : Nat) : Int) := by omega
      obtain ⟨id, pi, pj, o, ho, hri, hrj, hpi, hpj, hid, hidl, hia, hja, hsw⟩ := hs'.swapN (i := i) (j := L.length - 1 - i) (by omega) (by omega)
      have hidH : H.length ≤ id := own_ge to id (by rw [hid]; simp)
      have hw1 := hw id hidH
      have hset : ∀ q, (t.H.set id q)[id]? = some q := fun q => List.getElem?_set_self hidl
      have w1 := wrap64 ((i : Int) + 1) (by omega) (by omega)
      have w2 := wrap64 (((L.length - 1 - i : Nat) : Int) - 1) (by omega) (by omega)
      rw [ej] at k7
      refine go_draw ?_
      simp only [go_sem, ↓reduceIte, Nat.reduceEqDiff, reduceCtorEq, Nat.reduceAdd, Nat.reduceLeDiff, Nat.reduceMul, k3, k6, k7, hia, hja, ho, hri, hrj, hpi, hpj, hw1, hset, spl_length, List.set_set]
      refine ⟨by rfl, ?_⟩
      simp only [go_sem, ↓reduceIte, Nat.reduceEqDiff, reduceCtorEq, Nat.reduceAdd, Nat.reduceLeDiff, Nat.reduceMul, k3, k6, k7, w1, w2]
      refine ⟨by omega, pre_set tH hidH, by simp, by congr 2; omega, _, hsw, by simp [hl'], rev_step hl' hil hx'⟩
    · rintro t ⟨tH, k3, hs'⟩
      have hb := hs'.b2s (fun x hx => hLb x (List.mem_reverse.1 hx))
      simp only [go_sem, ↓reduceIte, Nat.reduceEqDiff, reduceCtorEq, Nat.reduceAdd, Nat.reduceLeDiff, Nat.reduceMul, k3, hb]
      refine ⟨by unfold decB; rw [hLr], (List.prefix_iff_eq_take.1 tH).symm⟩
end Go.Proofs.YtglboiahgpfjdaaGreat.Ev

/- A world's story: lines of words and numbers. -/
namespace Go.Proofs.YtglboiahgpfjdaaGreat.Ev
set_option linter.all false
open Go
set_option maxRecDepth 4000

theorem zeros_5 (z : List Value) : zeros 5 z = z ++ (z ++ (z ++ (z ++ z))) := by simp [zeros, List.replicate_succ]
theorem zeros_6 (z : List Value) : zeros 6 z = z ++ (z ++ (z ++ (z ++ (z ++ z)))) := by simp [zeros, List.replicate_succ]
attribute [go_sem] zeros_5 zeros_6
/-- The same program, nothing told by itself: for the words alone. -/
noncomputable def EE0 : Env := { fns := fnsOf Go.Proofs.Tryz.prog (fun _ _ => false), prim := fun _ => none, pw := fun _ => false, tr := fun f => trT.contains f }
theorem k51' : EE0.fns 51 = some c51 := by kernel_rfl
theorem k82' : EE0.fns 82 = some c82 := by kernel_rfl
theorem f82' {H : Hp} {a b c : Int} : Scal EE0 82 [.int .i64 a, .int .i64 b, .int .i64 c] H (.bool (inB a b c)) := by
  refine scal_ok rfl rfl k82' (by simp [c82]) rfl fun m hw => ?_
  unfold inB
  simp only [go_sem, ↓reduceIte, Nat.reduceEqDiff, reduceCtorEq, Nat.reduceAdd, Nat.reduceLeDiff, Nat.reduceMul, c82]
  refine brT.intro (fun q => ?_) (fun q => ?_) <;> simp only [go_sem, ↓reduceIte, Nat.reduceEqDiff, reduceCtorEq, Nat.reduceAdd, Nat.reduceLeDiff, Nat.reduceMul, q]
theorem own_S {H : Hp} {l : List ByteArray} (h : l.length ≤ 1000) : SlS (H ++ [l.map Value.string]) (.slice (some ⟨H.length, 0, some 1⟩) l.length (l.length * 1)) l :=
  .inr ⟨H.length, 0, l.length * 1, l.map Value.string, rfl, by simp, by simp, by simp, by omega, fun i b hi => by
    unfold En eS
    refine List.ext_getElem? fun j => ?_
    rw [List.getElem?_take, List.getElem?_drop]
    cases j with
    | zero =>
      simp only [Nat.lt_one_iff, if_true, Nat.zero_add, Nat.mul_one, Nat.add_zero, List.getElem?_map, hi]
      rfl
    | succ j => simp⟩
theorem own_I {H : Hp} {l : List Int} (h : l.length ≤ 1000) : SlI (H ++ [l.map (Value.int .i64)]) (.slice (some ⟨H.length, 0, some 1⟩) l.length (l.length * 1)) l :=
  .inr ⟨H.length, 0, l.length * 1, l.map (Value.int .i64), rfl, by simp, by simp, by simp, by omega, fun i b hi => by
    unfold En eI
    refine List.ext_getElem? fun j => ?_
    rw [List.getElem?_take, List.getElem?_drop]
    cases j with
    | zero =>
      simp only [Nat.lt_one_iff, if_true, Nat.zero_add, Nat.mul_one, Nat.add_zero, List.getElem?_map, hi]
      rfl
    | succ j => simp⟩
theorem evW_no {k : Int} (h : inB k 1 4 = false) : evWd k = ⟨#[101, 118, 101, 110, 116]⟩ := by
  have h2 : ¬ (1 ≤ k ∧ k ≤ 4) := fun e => by rw [inB_t.2 e] at h; cases h
  unfold evWd
  rw [if_neg (by omega), if_neg (by omega), if_neg (by omega), if_neg (by omega)]
def nm4 : List ByteArray := [⟨#[108, 111, 103, 105, 110]⟩, ⟨#[105, 115, 115, 117, 101]⟩, ⟨#[114, 101, 102, 101, 114]⟩, ⟨#[100, 101, 108, 101, 103, 97, 116, 101]⟩]
theorem evW_at {k : Int} (h : inB k 1 4 = true) : ∃ i : Nat, k = (i : Int) + 1 ∧ i < 4 ∧ nm4[i]? = some (evWd k) ∧ (⟨#[]⟩ :: nm4)[i + 1]? = some (evWd k) := by
  have h2 := inB_t.1 h
  obtain ⟨i, rfl⟩ : ∃ i : Nat, k = (i : Int) + 1 := ⟨(k - 1).toNat, by omega⟩
  have : i = 0 ∨ i = 1 ∨ i = 2 ∨ i = 3 := by omega
  rcases this with rfl | rfl | rfl | rfl <;> exact ⟨_, rfl, by omega, rfl, rfl⟩
theorem f51' {H : Hp} {k : Int} : Scal EE0 51 [.int .i64 k] H (.string (evWd k)) := by
  refine scal_ok rfl rfl k51' (by simp [c51]) rfl fun m hw => ?_
  have a82 := fun {m draw s' d' ts Q} => callT_at (m := m) (draw := draw) (s := s') (d := d') (ts := ts) (Q := Q) (f82' (H := H) (a := k) (b := 1) (c := 4))
  simp only [go_sem, ↓reduceIte, Nat.reduceEqDiff, reduceCtorEq, Nat.reduceAdd, Nat.reduceLeDiff, Nat.reduceMul, c51, a82, hw]
  cases q : inB k 1 4 <;> simp only [go_sem, ↓reduceIte, Nat.reduceEqDiff, reduceCtorEq, Nat.reduceAdd, Nat.reduceLeDiff, Nat.reduceMul, q]
  · rw [evW_no q]
  obtain ⟨i, rfl, hi, hg, _⟩ := evW_at q
  have hs : SlS (H ++ [[.string ⟨#[108, 111, 103, 105, 110]⟩, .string ⟨#[105, 115, 115, 117, 101]⟩, .string ⟨#[114, 101, 102, 101, 114]⟩, .string ⟨#[100, 101, 108, 101, 103, 97, 116, 101]⟩]]) (.slice (some ⟨H.length, 0, some 1⟩) 4 (4 * 1)) nm4 := own_S (l := nm4) (by decide)
  obtain ⟨id, p, o, ho, hr, hia⟩ := hs.str hg
  have wk : IntKind.i64.wrap ((i : Int) + 1 - 1) = (i : Int) := by rw [wrap64 _ (by omega) (by omega)]; omega
  simp only [go_sem, ↓reduceIte, Nat.reduceEqDiff, reduceCtorEq, Nat.reduceAdd, Nat.reduceLeDiff, Nat.reduceMul, wk, hia, ho, hr]
  try simp
theorem pureSound : PureSound Go.Proofs.Tryz.prog := by
  intro f k v h
  have h : (if f = 51 then some (Value.string (evWd k)) else none) = some v := h
  split at h
  · rename_i hf
    subst hf
    cases h
    have hk := f51' (H := []) (k := k) { wr := fun id => decide (([] : Hp).length ≤ id), nr := false } (fun id hid => by simpa using hid)
    obtain ⟨kk, r, H', h1, h2⟩ := hk
    have hs := sound (B := 0) (P := Go.Proofs.Tryz.prog) (E := EE0) (hv := fun _ _ => false) (by kernel_rfl) rfl (.inr fun _ _ => rfl) (fun f p h => by cases h) (fun f p h => by cases h) kk _ _ _ _ _ _ h1 (fun id _ => Nat.zero_le _) (Nat.zero_le _)
    refine ⟨hs.1, fun w => ?_⟩
    refine (hs.2 (fun _ => none) w #[.int .i64 k] (RdRel.nil w) (.cons (.int _ _) .nil)).mono fun e w' ⟨v, J', he, t1, t2, t3⟩ => ?_
    rw [h2.1] at t3
    rw [t3.str_inv] at he
    exact ⟨he, t1.os, t1.tape, t1.output, t1.grow, fun b hb => t1.frame b hb fun id l hl _ => by cases hl⟩
  · cases h
end Go.Proofs.YtglboiahgpfjdaaGreat.Ev

/- A world's story, the reference's way. -/
namespace Go.Proofs.YtglboiahgpfjdaaGreat.Ev
set_option linter.all false
open Go
set_option maxRecDepth 4000

def acW : ByteArray := ⟨#[97, 99, 99, 101, 112, 116]⟩
noncomputable def numsB (a : ByteArray) (l : List Int) : ByteArray := l.foldl (fun a n => a ++ ⟨#[32]⟩ ++ decB n) a
noncomputable def tellB (w : ByteArray) (l : List Int) : ByteArray := numsB w l ++ ⟨#[10]⟩
theorem sz1 {b : UInt8} : (⟨#[b]⟩ : ByteArray).size = 1 := rfl
theorem nums_len : ∀ (l : List Int) (a : ByteArray), (numsB a l).size ≤ a.size + 22 * l.length
  | [], a => by simp [numsB]
  | n :: l, a => by
    have := nums_len l (a ++ ⟨#[32]⟩ ++ decB n)
    have h := decB_len n
    show (numsB (a ++ ⟨#[32]⟩ ++ decB n) l).size ≤ _
    rw [ByteArray.size_append, ByteArray.size_append, sz1] at this
    simp only [List.length_cons]
    omega
theorem tell_len {w : ByteArray} {l : List Int} : (tellB w l).size ≤ w.size + 22 * l.length + 1 := by
  unfold tellB
  have := nums_len l w
  rw [ByteArray.size_append, sz1]
  omega
theorem nums_succ {a : ByteArray} {l : List Int} {i : Nat} (h : i < l.length) : numsB a (l.take (i + 1)) = numsB a (l.take i) ++ ⟨#[32]⟩ ++ decB l[i] := by
  unfold numsB
  rw [List.take_succ_eq_append_getElem h, List.foldl_append]
  rfl
theorem f50 {H : Hp} {v : Value} {l : List Int} {wd : ByteArray} (hl : SlI H v l) (hle : l.length ≤ 5) (hwd : wd.size ≤ 100) : Scal EE 50 [.string wd, v] H (.string (tellB wd l)) := by
  refine scal_ok rfl rfl k50 (by simp [c50]) rfl fun m hw => ?_
  simp only [go_sem, ↓reduceIte, Nat.reduceEqDiff, reduceCtorEq, Nat.reduceAdd, Nat.reduceLeDiff, Nat.reduceMul, c50, hl.len]
  refine go_for l.length (fun i s => s.H = H ∧ s.ρ 0 = .val (.string (numsB wd (l.take i))) ∧ s.ρ 7 = .val v ∧ s.ρ 8 = .val (.int .i64 l.length) ∧ s.ρ 9 = .val (.int .i64 i)) (fun s => s.H = H ∧ s.ρ 0 = .val (.string (numsB wd l))) ?_ ?_ ?_
  · exact ⟨rfl, by simp [upd, ini, numsB], by simp [upd], by simp [upd], by simp [upd]⟩
  · rintro i s hi ⟨hH, k0, k7, k8, k9⟩
    simp only [go_sem, ↓reduceIte, Nat.reduceEqDiff, reduceCtorEq, Nat.reduceAdd, Nat.reduceLeDiff, Nat.reduceMul, k0, k7, k8, k9]
    cases c1 : decide ((i : Int) < (l.length : Int)) <;> simp only [go_sem, ↓reduceIte, Nat.reduceEqDiff, reduceCtorEq, Nat.reduceAdd, Nat.reduceLeDiff, Nat.reduceMul, k0, k7, k8, k9, c1]
    · rw [List.take_of_length_le (by have := of_decide_eq_false c1; omega)]
      exact ⟨hH, rfl⟩
    have hil : i < l.length := by have := of_decide_eq_true c1; omega
    have w1 := wrap64 ((i : Int) + 1) (by omega) (by omega)
    obtain ⟨id, p, o, ho, hr, hia⟩ := hl.int (List.getElem?_eq_getElem hil)
    have ak := fun {m draw s' d' ts Q} => callT_at (m := m) (draw := draw) (s := s') (d := d') (ts := ts) (Q := Q) (f90 (H := H) (n := l[i]))
    have hn := nums_len (l.take i) wd
    have hd := decB_len l[i]
    rw [List.length_take] at hn
    have h1 : (numsB wd (l.take i)).size + (⟨#[32]⟩ : ByteArray).size ≤ 9223372036854775807 := by rw [sz1]; omega
    have h2 : (numsB wd (l.take i) ++ ⟨#[32]⟩).size + (decB l[i]).size ≤ 9223372036854775807 := by rw [ByteArray.size_append, sz1]; omega
    simp only [go_sem, ↓reduceIte, Nat.reduceEqDiff, reduceCtorEq, Nat.reduceAdd, Nat.reduceLeDiff, Nat.reduceMul, k0, k7, k8, k9, hia, hH, ho, hr, ak, hw, h1, h2, w1]
    rw [nums_succ hil]
    exact ⟨hil, rfl, by simp⟩
  · rintro s ⟨hH, k0⟩
    have hn := nums_len l wd
    have h1 : (numsB wd l).size + (⟨#[10]⟩ : ByteArray).size ≤ 9223372036854775807 := by rw [sz1]; omega
    simp only [go_sem, ↓reduceIte, Nat.reduceEqDiff, reduceCtorEq, Nat.reduceAdd, Nat.reduceLeDiff, Nat.reduceMul, k0, hH, h1]
    try rfl

noncomputable def evL (e : Evt) : ByteArray := tellB (evWd e.kd) [e.rm, e.bq, e.cl, e.sv, e.ky]
noncomputable def acL (a : Acp) : ByteArray := tellB acW [a.sv, a.cl, a.op, a.nw]
noncomputable def lgB (l : List Evt) : ByteArray := l.foldl (fun s e => s ++ evL e) ⟨#[]⟩
noncomputable def asB (s : ByteArray) (l : List Acp) : ByteArray := l.foldl (fun s a => s ++ acL a) s
noncomputable def stB (w : Wd) : ByteArray := if wdOk w = true then asB (lgB w.log) w.acs else ⟨#[]⟩
theorem evWd_len (k : Int) : (evWd k).size ≤ 8 := by
  unfold evWd
  split
  · decide
  · split
    · decide
    · split
      · decide
      · split <;> decide
theorem evL_len (e : Evt) : (evL e).size ≤ 119 := by
  have h1 := tell_len (w := evWd e.kd) (l := [e.rm, e.bq, e.cl, e.sv, e.ky])
  have h2 := evWd_len e.kd
  unfold evL
  simp only [List.length_cons, List.length_nil] at h1
  omega
theorem acL_len (a : Acp) : (acL a).size ≤ 119 := by
  have h1 := tell_len (w := acW) (l := [a.sv, a.cl, a.op, a.nw])
  have h2 : acW.size = 6 := rfl
  unfold acL
  simp only [List.length_cons, List.length_nil] at h1
  omega
theorem lg_succ {l : List Evt} {i : Nat} (h : i < l.length) : lgB (l.take (i + 1)) = lgB (l.take i) ++ evL l[i] := by
  unfold lgB
  rw [List.take_succ_eq_append_getElem h, List.foldl_append]
  rfl
theorem as_succ {s : ByteArray} {l : List Acp} {i : Nat} (h : i < l.length) : asB s (l.take (i + 1)) = asB s (l.take i) ++ acL l[i] := by
  unfold asB
  rw [List.take_succ_eq_append_getElem h, List.foldl_append]
  rfl
theorem lg_len : ∀ (l : List Evt), (lgB l).size ≤ 119 * l.length := by
  have : ∀ (l : List Evt) (s : ByteArray), (l.foldl (fun s e => s ++ evL e) s).size ≤ s.size + 119 * l.length := fun l => by
    induction l with
    | nil => intro s; simp
    | cons e l ih =>
      intro s
      have := ih (s ++ evL e)
      have h := evL_len e
      rw [ByteArray.size_append] at this
      simp only [List.foldl_cons, List.length_cons]
      omega
  intro l
  have h := this l ⟨#[]⟩
  have h0 : (⟨#[]⟩ : ByteArray).size = 0 := rfl
  rw [h0] at h
  unfold lgB
  omega
theorem as_len : ∀ (l : List Acp) (s : ByteArray), (asB s l).size ≤ s.size + 119 * l.length
  | [], s => by simp [asB]
  | e :: l, s => by
    have := as_len l (s ++ acL e)
    have h := acL_len e
    rw [ByteArray.size_append] at this
    show (asB (s ++ acL e) l).size ≤ _
    simp only [List.length_cons]
    omega
theorem st_no {w : Wd} (h : wdOk w = false) : stB w = ⟨#[]⟩ := by unfold stB; rw [if_neg (by rw [h]; simp)]
theorem st_yes {w : Wd} (h : wdOk w = true) : stB w = asB (lgB w.log) w.acs := by unfold stB; rw [if_pos h]
theorem evL_at (s : ByteArray) (e : Evt) : s ++ evL e = s ++ evWd e.kd ++ ⟨#[32]⟩ ++ decB e.rm ++ ⟨#[32]⟩ ++ decB e.bq ++ ⟨#[32]⟩ ++ decB e.cl ++ ⟨#[32]⟩ ++ decB e.sv ++ ⟨#[32]⟩ ++ decB e.ky ++ ⟨#[10]⟩ := by
  unfold evL tellB numsB
  simp only [List.foldl_cons, List.foldl_nil, ByteArray.append_assoc]
theorem acW_sp : (⟨#[97, 99, 99, 101, 112, 116, 32]⟩ : ByteArray) = acW ++ ⟨#[32]⟩ := rfl
theorem acL_at (s : ByteArray) (a : Acp) : s ++ acL a = s ++ ⟨#[97, 99, 99, 101, 112, 116, 32]⟩ ++ decB a.sv ++ ⟨#[32]⟩ ++ decB a.cl ++ ⟨#[32]⟩ ++ decB a.op ++ ⟨#[32]⟩ ++ decB a.nw ++ ⟨#[10]⟩ := by
  rw [acW_sp]
  unfold acL tellB numsB
  simp only [List.foldl_cons, List.foldl_nil, ByteArray.append_assoc]
theorem sz7 : (⟨#[97, 99, 99, 101, 112, 116, 32]⟩ : ByteArray).size = 7 := rfl
theorem f13 {H : Hp} {w : Wd} {u s l p n t k a c h e x d : Value} (q : RWd H w u s l p n t k a c h e x d) (z : WdZ w) : Scal EE 13 [.agg #[u, s, l, p, .int .i64 w.cf.skew, .int .i64 w.now, .int .i64 w.fresh, n, t, k, a, c, h, e, x, d]] H (.string (stB w)) := by
  refine scal_ok rfl rfl k13 (by simp [c13]) rfl fun m hw => ?_
  have a19 := fun {m draw s' d' ts Q} => callT_at (m := m) (draw := draw) (s := s') (d := d') (ts := ts) (Q := Q) (f19 q z)
  have V := q.vcs
  simp only [go_sem, ↓reduceIte, Nat.reduceEqDiff, reduceCtorEq, Nat.reduceAdd, Nat.reduceLeDiff, Nat.reduceMul, c13, a19, hw, V]
  cases q0 : wdOk w <;> simp only [go_sem, ↓reduceIte, Nat.reduceEqDiff, reduceCtorEq, Nat.reduceAdd, Nat.reduceLeDiff, Nat.reduceMul, q0, V]
  · rw [st_no q0]
  obtain ⟨l1, l2, l3, l4⟩ := wd_len q0
  have hs5 : SlS (H ++ [[.string ⟨#[]⟩, .string ⟨#[108, 111, 103, 105, 110]⟩, .string ⟨#[105, 115, 115, 117, 101]⟩, .string ⟨#[114, 101, 102, 101, 114]⟩, .string ⟨#[100, 101, 108, 101, 103, 97, 116, 101]⟩]]) (.slice (some ⟨H.length, 0, some 1⟩) 5 5) (⟨#[]⟩ :: nm4) := own_S (l := ⟨#[]⟩ :: nm4) (by decide)
  generalize hHH : H ++ [[.string ⟨#[]⟩, .string ⟨#[108, 111, 103, 105, 110]⟩, .string ⟨#[105, 115, 115, 117, 101]⟩, .string ⟨#[114, 101, 102, 101, 114]⟩, .string ⟨#[100, 101, 108, 101, 103, 97, 116, 101]⟩]] = HH at *
  have hpre : H <+: HH := by rw [← hHH]; exact List.prefix_append _ _
  have qq := q.pre hpre
  have hwh := hw.pre hpre
  refine go_for w.log.length (fun i s' => s'.H = HH ∧ (∃ g, s'.ρ 1 = .bx g [u, s, l, p, .int .i64 w.cf.skew, .int .i64 w.now, .int .i64 w.fresh, n, t, k, a, c, h, e, x, d]) ∧ s'.ρ 3 = .val (.slice (some ⟨H.length, 0, some 1⟩) 5 5) ∧ s'.ρ 4 = .val (.string (lgB (w.log.take i))) ∧ s'.ρ 5 = .val (.int .i64 i))
    (fun s' => s'.H = HH ∧ (∃ g, s'.ρ 1 = .bx g [u, s, l, p, .int .i64 w.cf.skew, .int .i64 w.now, .int .i64 w.fresh, n, t, k, a, c, h, e, x, d]) ∧ s'.ρ 4 = .val (.string (lgB w.log))) ?_ ?_ ?_
  · exact ⟨by first | exact hHH | rfl | (simp [hHH]; done), ⟨_, by simp [upd, ini]; rfl⟩, by simp [upd], by simp [upd, lgB], by simp [upd]⟩
  · rintro i s' hi ⟨hH, ⟨g, k1⟩, k3, k4, k5⟩
    simp only [go_sem, ↓reduceIte, Nat.reduceEqDiff, reduceCtorEq, Nat.reduceAdd, Nat.reduceLeDiff, Nat.reduceMul, k1, k3, k4, k5, qq.log.len]
    cases c1 : decide ((i : Int) < (w.log.length : Int)) <;> simp only [go_sem, ↓reduceIte, Nat.reduceEqDiff, reduceCtorEq, Nat.reduceAdd, Nat.reduceLeDiff, Nat.reduceMul, k1, k3, k4, k5, c1]
    · rw [List.take_of_length_le (by have := of_decide_eq_false c1; omega)]
      exact ⟨hH, ⟨_, rfl⟩, rfl⟩
    have hil : i < w.log.length := by have := of_decide_eq_true c1; omega
    have w1 := wrap64 ((i : Int) + 1) (by omega) (by omega)
    obtain ⟨id, b, o, ho, hr, hb, hia⟩ := qq.log.elem (List.getElem?_eq_getElem hil)
    have hr : (o.drop b).take 11 = eEv w.log[i] := hr
    unfold eEv at hr
    have hn := lg_len (w.log.take i)
    rw [List.length_take] at hn
    have hk := evWd_len w.log[i].kd
    have d0 := decB_len w.log[i].rm
    have d1 := decB_len w.log[i].bq
    have d2 := decB_len w.log[i].cl
    have d3 := decB_len w.log[i].sv
    have d4 := decB_len w.log[i].ky
    have z0 : (lgB (w.log.take i)).size + (evWd w.log[i].kd).size ≤ 9223372036854775807 := by (try simp only [ByteArray.size_append, sz1, sz7]); omega
    have z1 : (lgB (w.log.take i) ++ evWd w.log[i].kd).size + ((⟨#[32]⟩ : ByteArray)).size ≤ 9223372036854775807 := by (try simp only [ByteArray.size_append, sz1, sz7]); omega
    have z2 : (lgB (w.log.take i) ++ evWd w.log[i].kd ++ (⟨#[32]⟩ : ByteArray)).size + (decB w.log[i].rm).size ≤ 9223372036854775807 := by (try simp only [ByteArray.size_append, sz1, sz7]); omega
    have z3 : (lgB (w.log.take i) ++ evWd w.log[i].kd ++ (⟨#[32]⟩ : ByteArray) ++ decB w.log[i].rm).size + ((⟨#[32]⟩ : ByteArray)).size ≤ 9223372036854775807 := by (try simp only [ByteArray.size_append, sz1, sz7]); omega
    have z4 : (lgB (w.log.take i) ++ evWd w.log[i].kd ++ (⟨#[32]⟩ : ByteArray) ++ decB w.log[i].rm ++ (⟨#[32]⟩ : ByteArray)).size + (decB w.log[i].bq).size ≤ 9223372036854775807 := by (try simp only [ByteArray.size_append, sz1, sz7]); omega
    have z5 : (lgB (w.log.take i) ++ evWd w.log[i].kd ++ (⟨#[32]⟩ : ByteArray) ++ decB w.log[i].rm ++ (⟨#[32]⟩ : ByteArray) ++ decB w.log[i].bq).size + ((⟨#[32]⟩ : ByteArray)).size ≤ 9223372036854775807 := by (try simp only [ByteArray.size_append, sz1, sz7]); omega
    have z6 : (lgB (w.log.take i) ++ evWd w.log[i].kd ++ (⟨#[32]⟩ : ByteArray) ++ decB w.log[i].rm ++ (⟨#[32]⟩ : ByteArray) ++ decB w.log[i].bq ++ (⟨#[32]⟩ : ByteArray)).size + (decB w.log[i].cl).size ≤ 9223372036854775807 := by (try simp only [ByteArray.size_append, sz1, sz7]); omega
    have z7 : (lgB (w.log.take i) ++ evWd w.log[i].kd ++ (⟨#[32]⟩ : ByteArray) ++ decB w.log[i].rm ++ (⟨#[32]⟩ : ByteArray) ++ decB w.log[i].bq ++ (⟨#[32]⟩ : ByteArray) ++ decB w.log[i].cl).size + ((⟨#[32]⟩ : ByteArray)).size ≤ 9223372036854775807 := by (try simp only [ByteArray.size_append, sz1, sz7]); omega
    have z8 : (lgB (w.log.take i) ++ evWd w.log[i].kd ++ (⟨#[32]⟩ : ByteArray) ++ decB w.log[i].rm ++ (⟨#[32]⟩ : ByteArray) ++ decB w.log[i].bq ++ (⟨#[32]⟩ : ByteArray) ++ decB w.log[i].cl ++ (⟨#[32]⟩ : ByteArray)).size + (decB w.log[i].sv).size ≤ 9223372036854775807 := by (try simp only [ByteArray.size_append, sz1, sz7]); omega
    have z9 : (lgB (w.log.take i) ++ evWd w.log[i].kd ++ (⟨#[32]⟩ : ByteArray) ++ decB w.log[i].rm ++ (⟨#[32]⟩ : ByteArray) ++ decB w.log[i].bq ++ (⟨#[32]⟩ : ByteArray) ++ decB w.log[i].cl ++ (⟨#[32]⟩ : ByteArray) ++ decB w.log[i].sv).size + ((⟨#[32]⟩ : ByteArray)).size ≤ 9223372036854775807 := by (try simp only [ByteArray.size_append, sz1, sz7]); omega
    have z10 : (lgB (w.log.take i) ++ evWd w.log[i].kd ++ (⟨#[32]⟩ : ByteArray) ++ decB w.log[i].rm ++ (⟨#[32]⟩ : ByteArray) ++ decB w.log[i].bq ++ (⟨#[32]⟩ : ByteArray) ++ decB w.log[i].cl ++ (⟨#[32]⟩ : ByteArray) ++ decB w.log[i].sv ++ (⟨#[32]⟩ : ByteArray)).size + (decB w.log[i].ky).size ≤ 9223372036854775807 := by (try simp only [ByteArray.size_append, sz1, sz7]); omega
    have z11 : (lgB (w.log.take i) ++ evWd w.log[i].kd ++ (⟨#[32]⟩ : ByteArray) ++ decB w.log[i].rm ++ (⟨#[32]⟩ : ByteArray) ++ decB w.log[i].bq ++ (⟨#[32]⟩ : ByteArray) ++ decB w.log[i].cl ++ (⟨#[32]⟩ : ByteArray) ++ decB w.log[i].sv ++ (⟨#[32]⟩ : ByteArray) ++ decB w.log[i].ky).size + ((⟨#[10]⟩ : ByteArray)).size ≤ 9223372036854775807 := by (try simp only [ByteArray.size_append, sz1, sz7]); omega
    have a0 := fun {m draw s' d' ts Q} => callT_at (m := m) (draw := draw) (s := s') (d := d') (ts := ts) (Q := Q) (f49 (H := HH) (n := w.log[i].rm))
    have a1 := fun {m draw s' d' ts Q} => callT_at (m := m) (draw := draw) (s := s') (d := d') (ts := ts) (Q := Q) (f49 (H := HH) (n := w.log[i].bq))
    have a2 := fun {m draw s' d' ts Q} => callT_at (m := m) (draw := draw) (s := s') (d := d') (ts := ts) (Q := Q) (f49 (H := HH) (n := w.log[i].cl))
    have a3 := fun {m draw s' d' ts Q} => callT_at (m := m) (draw := draw) (s := s') (d := d') (ts := ts) (Q := Q) (f49 (H := HH) (n := w.log[i].sv))
    have a4 := fun {m draw s' d' ts Q} => callT_at (m := m) (draw := draw) (s := s') (d := d') (ts := ts) (Q := Q) (f49 (H := HH) (n := w.log[i].ky))
    simp only [go_sem, ↓reduceIte, Nat.reduceEqDiff, reduceCtorEq, Nat.reduceAdd, Nat.reduceLeDiff, Nat.reduceMul, k1, k3, k4, k5, hia, hH, ho, hr, hb, c48', hwh]
    refine brT_join (fun t' => t'.H = HH ∧ (∃ g, t'.ρ 1 = .bx g [u, s, l, p, .int .i64 w.cf.skew, .int .i64 w.now, .int .i64 w.fresh, n, t, k, a, c, h, e, x, d]) ∧ t'.ρ 3 = .val (.slice (some ⟨H.length, 0, some 1⟩) 5 5) ∧ t'.ρ 4 = .val (.string (lgB (w.log.take i))) ∧ t'.ρ 5 = .val (.int .i64 i) ∧ (∃ g, t'.ρ 6 = .bx g (eEv w.log[i])) ∧ t'.ρ 7 = .val (.string (evWd w.log[i].kd))) (fun q1 => ?_) (fun q1 => ?_) fun t' ⟨tH, ⟨g', t1⟩, t3, t4, t5, ⟨g6, t6⟩, t7⟩ => ?_
    · obtain ⟨j, hj, hj4, _, hg⟩ := evW_at q1
      obtain ⟨id2, p2, o2, ho2, hr2, hia2⟩ := hs5.str hg
      have hj' : (j : Int) + 1 = ((j + 1 : Nat) : Int) := by omega
      rw [hj'] at hj
      simp only [go_sem, ↓reduceIte, Nat.reduceEqDiff, reduceCtorEq, Nat.reduceAdd, Nat.reduceLeDiff, Nat.reduceMul, k1, k3, k4, k5, hj, hia2, ho2, hr2, hH]
      rw [← hj]
      try exact ⟨⟨_, rfl⟩, ⟨_, rfl⟩⟩
    · rw [evW_no q1]
      simp only [go_sem, ↓reduceIte, Nat.reduceEqDiff, reduceCtorEq, Nat.reduceAdd, Nat.reduceLeDiff, Nat.reduceMul, k1, k3, k4, k5, hH]
      try exact ⟨⟨_, rfl⟩, ⟨_, rfl⟩⟩
    unfold eEv at t6
    refine go_draw ?_
    simp only [go_sem, ↓reduceIte, Nat.reduceEqDiff, reduceCtorEq, Nat.reduceAdd, Nat.reduceLeDiff, Nat.reduceMul, t1, t3, t4, t5, t6, t7, tH, a0, a1, a2, a3, a4, hwh, z0, z1, z2, z3, z4, z5, z6, z7, z8, z9, z10, z11]
    refine ⟨by rfl, ?_⟩
    simp only [go_sem, ↓reduceIte, Nat.reduceEqDiff, reduceCtorEq, Nat.reduceAdd, Nat.reduceLeDiff, Nat.reduceMul, t1, t3, t5, tH, w1]
    rw [lg_succ hil, evL_at]
    exact ⟨hil, ⟨_, rfl⟩, rfl, by simp⟩
  rintro s' ⟨hH, ⟨g, k1⟩, k4⟩
  simp only [go_sem, ↓reduceIte, Nat.reduceEqDiff, reduceCtorEq, Nat.reduceAdd, Nat.reduceLeDiff, Nat.reduceMul, k1, k4]
  refine go_for w.acs.length (fun i s' => s'.H = HH ∧ (∃ g, s'.ρ 1 = .bx g [u, s, l, p, .int .i64 w.cf.skew, .int .i64 w.now, .int .i64 w.fresh, n, t, k, a, c, h, e, x, d]) ∧ s'.ρ 4 = .val (.string (asB (lgB w.log) (w.acs.take i))) ∧ s'.ρ 8 = .val (.int .i64 i))
    (fun s' => s'.H = HH ∧ s'.ρ 4 = .val (.string (asB (lgB w.log) w.acs))) ?_ ?_ ?_
  · exact ⟨hH, ⟨g, by simp [upd, k1]⟩, by simp [upd, k4, asB], by simp [upd]⟩
  · rintro i s' hi ⟨hH, ⟨g, k1⟩, k4, k8⟩
    simp only [go_sem, ↓reduceIte, Nat.reduceEqDiff, reduceCtorEq, Nat.reduceAdd, Nat.reduceLeDiff, Nat.reduceMul, k1, k4, k8, qq.acs.len]
    cases c1 : decide ((i : Int) < (w.acs.length : Int)) <;> simp only [go_sem, ↓reduceIte, Nat.reduceEqDiff, reduceCtorEq, Nat.reduceAdd, Nat.reduceLeDiff, Nat.reduceMul, k1, k4, k8, c1]
    · rw [List.take_of_length_le (by have := of_decide_eq_false c1; omega)]
      exact ⟨hH, rfl⟩
    have hil : i < w.acs.length := by have := of_decide_eq_true c1; omega
    have w1 := wrap64 ((i : Int) + 1) (by omega) (by omega)
    obtain ⟨id, b, o, ho, ⟨pp, pv, hr, hs1, hs2⟩, hb, hia⟩ := qq.acs.elem (List.getElem?_eq_getElem hil)
    have hn1 := lg_len w.log
    have hn := as_len (w.acs.take i) (lgB w.log)
    rw [List.length_take] at hn
    have d0 := decB_len w.acs[i].sv
    have d1 := decB_len w.acs[i].cl
    have d2 := decB_len w.acs[i].op
    have d3 := decB_len w.acs[i].nw
    have z0 : (asB (lgB w.log) (w.acs.take i)).size + ((⟨#[97, 99, 99, 101, 112, 116, 32]⟩ : ByteArray)).size ≤ 9223372036854775807 := by (try simp only [ByteArray.size_append, sz1, sz7]); omega
    have z1 : (asB (lgB w.log) (w.acs.take i) ++ (⟨#[97, 99, 99, 101, 112, 116, 32]⟩ : ByteArray)).size + (decB w.acs[i].sv).size ≤ 9223372036854775807 := by (try simp only [ByteArray.size_append, sz1, sz7]); omega
    have z2 : (asB (lgB w.log) (w.acs.take i) ++ (⟨#[97, 99, 99, 101, 112, 116, 32]⟩ : ByteArray) ++ decB w.acs[i].sv).size + ((⟨#[32]⟩ : ByteArray)).size ≤ 9223372036854775807 := by (try simp only [ByteArray.size_append, sz1, sz7]); omega
    have z3 : (asB (lgB w.log) (w.acs.take i) ++ (⟨#[97, 99, 99, 101, 112, 116, 32]⟩ : ByteArray) ++ decB w.acs[i].sv ++ (⟨#[32]⟩ : ByteArray)).size + (decB w.acs[i].cl).size ≤ 9223372036854775807 := by (try simp only [ByteArray.size_append, sz1, sz7]); omega
    have z4 : (asB (lgB w.log) (w.acs.take i) ++ (⟨#[97, 99, 99, 101, 112, 116, 32]⟩ : ByteArray) ++ decB w.acs[i].sv ++ (⟨#[32]⟩ : ByteArray) ++ decB w.acs[i].cl).size + ((⟨#[32]⟩ : ByteArray)).size ≤ 9223372036854775807 := by (try simp only [ByteArray.size_append, sz1, sz7]); omega
    have z5 : (asB (lgB w.log) (w.acs.take i) ++ (⟨#[97, 99, 99, 101, 112, 116, 32]⟩ : ByteArray) ++ decB w.acs[i].sv ++ (⟨#[32]⟩ : ByteArray) ++ decB w.acs[i].cl ++ (⟨#[32]⟩ : ByteArray)).size + (decB w.acs[i].op).size ≤ 9223372036854775807 := by (try simp only [ByteArray.size_append, sz1, sz7]); omega
    have z6 : (asB (lgB w.log) (w.acs.take i) ++ (⟨#[97, 99, 99, 101, 112, 116, 32]⟩ : ByteArray) ++ decB w.acs[i].sv ++ (⟨#[32]⟩ : ByteArray) ++ decB w.acs[i].cl ++ (⟨#[32]⟩ : ByteArray) ++ decB w.acs[i].op).size + ((⟨#[32]⟩ : ByteArray)).size ≤ 9223372036854775807 := by (try simp only [ByteArray.size_append, sz1, sz7]); omega
    have z7 : (asB (lgB w.log) (w.acs.take i) ++ (⟨#[97, 99, 99, 101, 112, 116, 32]⟩ : ByteArray) ++ decB w.acs[i].sv ++ (⟨#[32]⟩ : ByteArray) ++ decB w.acs[i].cl ++ (⟨#[32]⟩ : ByteArray) ++ decB w.acs[i].op ++ (⟨#[32]⟩ : ByteArray)).size + (decB w.acs[i].nw).size ≤ 9223372036854775807 := by (try simp only [ByteArray.size_append, sz1, sz7]); omega
    have z8 : (asB (lgB w.log) (w.acs.take i) ++ (⟨#[97, 99, 99, 101, 112, 116, 32]⟩ : ByteArray) ++ decB w.acs[i].sv ++ (⟨#[32]⟩ : ByteArray) ++ decB w.acs[i].cl ++ (⟨#[32]⟩ : ByteArray) ++ decB w.acs[i].op ++ (⟨#[32]⟩ : ByteArray) ++ decB w.acs[i].nw).size + ((⟨#[10]⟩ : ByteArray)).size ≤ 9223372036854775807 := by (try simp only [ByteArray.size_append, sz1, sz7]); omega
    have a0 := fun {m draw s' d' ts Q} => callT_at (m := m) (draw := draw) (s := s') (d := d') (ts := ts) (Q := Q) (f49 (H := HH) (n := w.acs[i].sv))
    have a1 := fun {m draw s' d' ts Q} => callT_at (m := m) (draw := draw) (s := s') (d := d') (ts := ts) (Q := Q) (f49 (H := HH) (n := w.acs[i].cl))
    have a2 := fun {m draw s' d' ts Q} => callT_at (m := m) (draw := draw) (s := s') (d := d') (ts := ts) (Q := Q) (f49 (H := HH) (n := w.acs[i].op))
    have a3 := fun {m draw s' d' ts Q} => callT_at (m := m) (draw := draw) (s := s') (d := d') (ts := ts) (Q := Q) (f49 (H := HH) (n := w.acs[i].nw))
    simp only [go_sem, ↓reduceIte, Nat.reduceEqDiff, reduceCtorEq, Nat.reduceAdd, Nat.reduceLeDiff, Nat.reduceMul, k1, k4, k8, hia, hH, ho, hr, hb]
    refine go_draw ?_
    simp only [go_sem, ↓reduceIte, Nat.reduceEqDiff, reduceCtorEq, Nat.reduceAdd, Nat.reduceLeDiff, Nat.reduceMul, k1, k4, k8, a0, a1, a2, a3, hwh, z0, z1, z2, z3, z4, z5, z6, z7, z8]
    refine ⟨by rfl, ?_⟩
    simp only [go_sem, ↓reduceIte, Nat.reduceEqDiff, reduceCtorEq, Nat.reduceAdd, Nat.reduceLeDiff, Nat.reduceMul, k1, k8, hH, w1]
    rw [as_succ hil, acL_at]
    exact ⟨hil, ⟨_, rfl⟩, rfl, by simp⟩
  rintro s' ⟨hH, k4⟩
  simp only [go_sem, ↓reduceIte, Nat.reduceEqDiff, reduceCtorEq, Nat.reduceAdd, Nat.reduceLeDiff, Nat.reduceMul, k4, hH]
  rw [st_yes q0]
  exact ⟨rfl, (List.prefix_iff_eq_take.1 hpre).symm⟩
end Go.Proofs.YtglboiahgpfjdaaGreat.Ev

/- A world's story, the program's way; the law Story. -/
namespace Go.Proofs.YtglboiahgpfjdaaGreat.Ev
set_option linter.all false
open Go
set_option maxRecDepth 4000

theorem f14 {H : Hp} {w : Wd} {u s l p n t k a c h e x d : Value} (q : RWd H w u s l p n t k a c h e x d) (z : WdZ w) : Scal EE 14 [.agg #[u, s, l, p, .int .i64 w.cf.skew, .int .i64 w.now, .int .i64 w.fresh, n, t, k, a, c, h, e, x, d]] H (.string (stB w)) := by
  refine scal_ok rfl rfl k14 (by simp [c14]) rfl fun m hw => ?_
  have a38 := fun {m draw s' d' ts Q} => callT_at (m := m) (draw := draw) (s := s') (d := d') (ts := ts) (Q := Q) (f38 q z)
  have V := q.vcs
  simp only [go_sem, ↓reduceIte, Nat.reduceEqDiff, reduceCtorEq, Nat.reduceAdd, Nat.reduceLeDiff, Nat.reduceMul, c14, a38, hw, V]
  cases q0 : wdOk w <;> simp only [go_sem, ↓reduceIte, Nat.reduceEqDiff, reduceCtorEq, Nat.reduceAdd, Nat.reduceLeDiff, Nat.reduceMul, q0, V, q.log.len]
  · rw [st_no q0]
  obtain ⟨l1, l2, l3, l4⟩ := wd_len q0
  refine go_for w.log.length (fun i s' => H <+: s'.H ∧ (∃ g, s'.ρ 1 = .bx g [u, s, l, p, .int .i64 w.cf.skew, .int .i64 w.now, .int .i64 w.fresh, n, t, k, a, c, h, e, x, d]) ∧ s'.ρ 3 = .val (.string (lgB (w.log.take i))) ∧ s'.ρ 12 = .val e ∧ s'.ρ 13 = .val (.int .i64 w.log.length) ∧ s'.ρ 14 = .val (.int .i64 i))
    (fun s' => H <+: s'.H ∧ (∃ g, s'.ρ 1 = .bx g [u, s, l, p, .int .i64 w.cf.skew, .int .i64 w.now, .int .i64 w.fresh, n, t, k, a, c, h, e, x, d]) ∧ s'.ρ 3 = .val (.string (lgB w.log))) ?_ ?_ ?_
  · exact ⟨List.prefix_refl _, ⟨_, by simp [upd, ini]; rfl⟩, by simp [upd, lgB], by simp [upd], by simp [upd], by simp [upd]⟩
  · rintro i s' hi ⟨hH, ⟨g, k1⟩, k3, k12, k13, k14⟩
    have qq := q.pre hH
    have hw' := hw.pre hH
    simp only [go_sem, ↓reduceIte, Nat.reduceEqDiff, reduceCtorEq, Nat.reduceAdd, Nat.reduceLeDiff, Nat.reduceMul, k1, k3, k12, k13, k14]
    cases c1 : decide ((i : Int) < (w.log.length : Int)) <;> simp only [go_sem, ↓reduceIte, Nat.reduceEqDiff, reduceCtorEq, Nat.reduceAdd, Nat.reduceLeDiff, Nat.reduceMul, k1, k3, k12, k13, k14, c1]
    · rw [List.take_of_length_le (by have := of_decide_eq_false c1; omega)]
      exact ⟨hH, ⟨_, rfl⟩, rfl⟩
    have hil : i < w.log.length := by have := of_decide_eq_true c1; omega
    have w1 := wrap64 ((i : Int) + 1) (by omega) (by omega)
    obtain ⟨id, b, o, ho, hr, hb, hia⟩ := qq.log.elem (List.getElem?_eq_getElem hil)
    have hr : (o.drop b).take 11 = eEv w.log[i] := hr
    unfold eEv at hr
    have hn := lg_len (w.log.take i)
    rw [List.length_take] at hn
    have hk := evWd_len w.log[i].kd
    have hsl : SlI (s'.H ++ [[.int .i64 w.log[i].rm, .int .i64 w.log[i].bq, .int .i64 w.log[i].cl, .int .i64 w.log[i].sv, .int .i64 w.log[i].ky]]) (.slice (some ⟨s'.H.length, 0, some 1⟩) 5 5) [w.log[i].rm, w.log[i].bq, w.log[i].cl, w.log[i].sv, w.log[i].ky] := own_I (l := [w.log[i].rm, w.log[i].bq, w.log[i].cl, w.log[i].sv, w.log[i].ky]) (by simp)
    have ak := fun {m draw s2 d' ts Q} => callT_at (m := m) (draw := draw) (s := s2) (d := d') (ts := ts) (Q := Q) (f50 (wd := evWd w.log[i].kd) hsl (by simp) (by omega))
    have hw2 : Wr m (s'.H ++ [[.int .i64 w.log[i].rm, .int .i64 w.log[i].bq, .int .i64 w.log[i].cl, .int .i64 w.log[i].sv, .int .i64 w.log[i].ky]]) := hw'.pre (List.prefix_append _ _)
    have hz : (lgB (w.log.take i)).size + (tellB (evWd w.log[i].kd) [w.log[i].rm, w.log[i].bq, w.log[i].cl, w.log[i].sv, w.log[i].ky]).size ≤ 9223372036854775807 := by have := evL_len w.log[i]; unfold evL at this; omega
    have hp : pureOf 51 [.int .i64 w.log[i].kd] = some (.string (evWd w.log[i].kd)) := rfl
    simp only [go_sem, ↓reduceIte, Nat.reduceEqDiff, reduceCtorEq, Nat.reduceAdd, Nat.reduceLeDiff, Nat.reduceMul, k1, k3, k12, k13, k14, hia, ho, hr, hb]
    refine go_draw ?_
    simp only [go_sem, ↓reduceIte, Nat.reduceEqDiff, reduceCtorEq, Nat.reduceAdd, Nat.reduceLeDiff, Nat.reduceMul, k1, k3, k12, k13, k14, pureK, hp, ak, hw2, hz]
    refine ⟨by rfl, ?_⟩
    simp only [go_sem, ↓reduceIte, Nat.reduceEqDiff, reduceCtorEq, Nat.reduceAdd, Nat.reduceLeDiff, Nat.reduceMul, k1, k12, k13, k14, w1]
    rw [lg_succ hil]
    exact ⟨hil, hH.trans (List.prefix_append _ _), ⟨_, rfl⟩, rfl, by simp⟩
  rintro s' ⟨hH, ⟨g, k1⟩, k3⟩
  simp only [go_sem, ↓reduceIte, Nat.reduceEqDiff, reduceCtorEq, Nat.reduceAdd, Nat.reduceLeDiff, Nat.reduceMul, k1, k3, q.acs.len]
  refine go_for w.acs.length (fun i s' => H <+: s'.H ∧ (∃ g, s'.ρ 1 = .bx g [u, s, l, p, .int .i64 w.cf.skew, .int .i64 w.now, .int .i64 w.fresh, n, t, k, a, c, h, e, x, d]) ∧ s'.ρ 3 = .val (.string (asB (lgB w.log) (w.acs.take i))) ∧ s'.ρ 37 = .val x ∧ s'.ρ 38 = .val (.int .i64 w.acs.length) ∧ s'.ρ 39 = .val (.int .i64 i))
    (fun s' => H <+: s'.H ∧ s'.ρ 3 = .val (.string (asB (lgB w.log) w.acs))) ?_ ?_ ?_
  · exact ⟨hH, ⟨g, by simp [upd, k1]⟩, by simp [upd, k3, asB], by simp [upd], by simp [upd], by simp [upd]⟩
  · rintro i s' hi ⟨hH, ⟨g, k1⟩, k3, k37, k38, k39⟩
    have qq := q.pre hH
    have hw' := hw.pre hH
    simp only [go_sem, ↓reduceIte, Nat.reduceEqDiff, reduceCtorEq, Nat.reduceAdd, Nat.reduceLeDiff, Nat.reduceMul, k1, k3, k37, k38, k39]
    cases c1 : decide ((i : Int) < (w.acs.length : Int)) <;> simp only [go_sem, ↓reduceIte, Nat.reduceEqDiff, reduceCtorEq, Nat.reduceAdd, Nat.reduceLeDiff, Nat.reduceMul, k1, k3, k37, k38, k39, c1]
    · rw [List.take_of_length_le (by have := of_decide_eq_false c1; omega)]
      exact ⟨hH, rfl⟩
    have hil : i < w.acs.length := by have := of_decide_eq_true c1; omega
    have w1 := wrap64 ((i : Int) + 1) (by omega) (by omega)
    obtain ⟨id, b, o, ho, ⟨pp, pv, hr, hs1, hs2⟩, hb, hia⟩ := qq.acs.elem (List.getElem?_eq_getElem hil)
    have hn1 := lg_len w.log
    have hn := as_len (w.acs.take i) (lgB w.log)
    rw [List.length_take] at hn
    have hsl : SlI (s'.H ++ [[.int .i64 w.acs[i].sv, .int .i64 w.acs[i].cl, .int .i64 w.acs[i].op, .int .i64 w.acs[i].nw]]) (.slice (some ⟨s'.H.length, 0, some 1⟩) 4 4) [w.acs[i].sv, w.acs[i].cl, w.acs[i].op, w.acs[i].nw] := own_I (l := [w.acs[i].sv, w.acs[i].cl, w.acs[i].op, w.acs[i].nw]) (by simp)
    have ak := fun {m draw s2 d' ts Q} => callT_at (m := m) (draw := draw) (s := s2) (d := d') (ts := ts) (Q := Q) (f50 (wd := acW) hsl (by simp) (by decide))
    have hac : acW = ⟨#[97, 99, 99, 101, 112, 116]⟩ := rfl
    have hw2 : Wr m (s'.H ++ [[.int .i64 w.acs[i].sv, .int .i64 w.acs[i].cl, .int .i64 w.acs[i].op, .int .i64 w.acs[i].nw]]) := hw'.pre (List.prefix_append _ _)
    have hz : (asB (lgB w.log) (w.acs.take i)).size + (tellB acW [w.acs[i].sv, w.acs[i].cl, w.acs[i].op, w.acs[i].nw]).size ≤ 9223372036854775807 := by have := acL_len w.acs[i]; unfold acL at this; omega
    rw [hac] at ak hz
    simp only [go_sem, ↓reduceIte, Nat.reduceEqDiff, reduceCtorEq, Nat.reduceAdd, Nat.reduceLeDiff, Nat.reduceMul, k1, k3, k37, k38, k39, hia, ho, hr, hb, ak, hw2, hz, w1]
    rw [as_succ hil, ← hac]
    exact ⟨hil, hH.trans (List.prefix_append _ _), ⟨_, rfl⟩, rfl, by simp⟩
  rintro s' ⟨hH, k3⟩
  simp only [go_sem, ↓reduceIte, Nat.reduceEqDiff, reduceCtorEq, Nat.reduceAdd, Nat.reduceLeDiff, Nat.reduceMul, k3]
  rw [st_yes q0]
  exact ⟨rfl, (List.prefix_iff_eq_take.1 hH).symm⟩
theorem law4 {m : Md} {H : Hp} {v0 : Value} {w : Wd} (e0 : ∃ u s l p n t k a c h e x d, v0 = .agg #[u, s, l, p, .int .i64 w.cf.skew, .int .i64 w.now, .int .i64 w.fresh, n, t, k, a, c, h, e, x, d] ∧ RWd H w u s l p n t k a c h e x d) (hy : WdY w) (hw : Wr m H) (hnr : m.nr = false) : Fun EE m 4 [v0] H fun r _ => r = .bool true := by
  obtain ⟨u, s, l, p, n, t, k, a, c, h, e, x, d, rfl, q⟩ := e0
  refine fun_f rfl rfl k4 (by simp [c4]) ?_
  have V := q.vcs
  simp only [go_sem, ↓reduceIte, Nat.reduceEqDiff, reduceCtorEq, Nat.reduceAdd, Nat.reduceLeDiff, Nat.reduceMul, c4, V]
  refine callT_to (fun m' h' => f7 q hy (left := 1048576) (by omega) (by omega) m' h') rfl hw fun r H' ⟨⟨n0, e0, hn0⟩, e2⟩ => ?_
  subst e0; subst e2
  simp only [go_sem, ↓reduceIte, Nat.reduceEqDiff, reduceCtorEq, Nat.reduceAdd, Nat.reduceLeDiff, Nat.reduceMul, V]
  refine brT.intro (fun q0 => ?_) (fun q0 => ?_) <;> simp only [go_sem, ↓reduceIte, Nat.reduceEqDiff, reduceCtorEq, Nat.reduceAdd, Nat.reduceLeDiff, Nat.reduceMul, V]
  have zs := hn0 (by have := of_decide_eq_false q0; omega)
  have z := hy.z zs
  refine callT_nr (fun m' g hn => f9 q zs g (hn.trans hnr)) rfl hw fun r1 H1 ⟨u1, s1, l1, p1, n1, t1, k1, a1, c1, h1, e1, x1, d1, E1, P1, q1⟩ => ?_
  subst E1
  have w1 := hw.pre P1
  have V1 := q1.vcs
  have asp := fun {m draw s' d' ts Q} => callT_at (m := m) (draw := draw) (s := s') (d := d') (ts := ts) (Q := Q) (f13 q1 z)
  simp only [go_sem, ↓reduceIte, Nat.reduceEqDiff, reduceCtorEq, Nat.reduceAdd, Nat.reduceLeDiff, Nat.reduceMul, V, V1, asp, w1]
  refine callT_nr (fun m' g hn => f9 (q.pre P1) zs g (hn.trans hnr)) rfl w1 fun r2 H2 ⟨u2, s2, l2, p2, n2, t2, k2, a2, c2, h2, e2, x2, d2, E2, P2, q2⟩ => ?_
  subst E2
  have w2 := w1.pre P2
  have V2 := q2.vcs
  have ai := fun {m draw s' d' ts Q} => callT_at (m := m) (draw := draw) (s := s') (d := d') (ts := ts) (Q := Q) (f14 q2 z)
  simp only [go_sem, ↓reduceIte, Nat.reduceEqDiff, reduceCtorEq, Nat.reduceAdd, Nat.reduceLeDiff, Nat.reduceMul, V, V1, V2, ai, w2, ds, Bool.not_true]
  refine go_draw ?_
  simp only [go_sem, ↓reduceIte, Nat.reduceEqDiff, reduceCtorEq, Nat.reduceAdd, Nat.reduceLeDiff, Nat.reduceMul, V, V2]
  refine callT_nr (fun m' g hn => f9 ((q.pre P1).pre P2) zs g (hn.trans hnr)) rfl w2 fun r3 H3 ⟨u3, s3, l3, p3, n3, t3, k3, a3, c3, h3, e3, x3, d3, E3, P3, q3⟩ => ?_
  subst E3
  have w3 := w2.pre P3
  have V3 := q3.vcs
  have a12 := fun {m draw s' d' ts Q} => callT_at (m := m) (draw := draw) (s := s') (d := d') (ts := ts) (Q := Q) (f12 (q2.pre P3) q3)
  simp only [go_sem, ↓reduceIte, Nat.reduceEqDiff, reduceCtorEq, Nat.reduceAdd, Nat.reduceLeDiff, Nat.reduceMul, V, V2, V3, a12, w3, Bool.not_true]
  rfl
end Go.Proofs.YtglboiahgpfjdaaGreat.Ev
