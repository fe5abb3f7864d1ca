/- Realms that no way can do without: plain, and the reference's walk. -/
import Derived.Test.YtdplmjlbkaipiaaG9
namespace Go.Proofs.Ytdplmjlbkaipiaa.Ev
set_option linter.all false
open Go
set_option maxRecDepth 4000

/-- Some of the first numbers. -/
def selN (p : Int → Bool) (i : Nat) : List Int := ((List.range i).map fun (x : Nat) => (x : Int)).filter p
theorem selN_zero (p : Int → Bool) : selN p 0 = [] := rfl
theorem selN_yes {p : Int → Bool} {i : Nat} (h : p i = true) : selN p (i + 1) = selN p i ++ [(i : Int)] := by
  simp [selN, List.range_succ, h]
theorem selN_no {p : Int → Bool} {i : Nat} (h : p i = false) : selN p (i + 1) = selN p i := by
  simp [selN, List.range_succ, h]
theorem selN_len (p : Int → Bool) (i : Nat) : (selN p i).length ≤ i := by
  unfold selN
  refine Nat.le_trans (List.length_filter_le _ _) ?_
  simp
theorem selN_mem {p : Int → Bool} {i : Nat} {x : Int} : x ∈ selN p i ↔ 0 ≤ x ∧ x < (i : Int) ∧ p x = true := by
  simp only [selN, List.mem_filter, List.mem_map, List.mem_range]
  constructor
  · rintro ⟨⟨a, ha, rfl⟩, hp⟩
    exact ⟨by omega, by omega, hp⟩
  · rintro ⟨h1, h2, h3⟩
    exact ⟨⟨x.toNat, by omega, by omega⟩, h3⟩

/-- More hold of it than before. -/
theorem countP_lt {α : Type} {p q : α → Bool} : ∀ {l : List α}, (∀ x ∈ l, p x = true → q x = true) → (∃ x ∈ l, q x = true ∧ p x = false) → l.countP p < l.countP q
  | [], _, h => by
    obtain ⟨x, hx, _⟩ := h
    simp at hx
  | a :: l, h1, h2 => by
    have hle : l.countP p ≤ l.countP q := List.countP_mono_left fun x hx => h1 x (by simp [hx])
    obtain ⟨x, hx, hq, hp⟩ := h2
    rw [List.countP_cons, List.countP_cons]
    rcases List.mem_cons.1 hx with rfl | hx
    · rw [if_neg (by simp [hp]), if_pos hq]
      omega
    · have := countP_lt (l := l) (fun x hx => h1 x (by simp [hx])) ⟨x, hx, hq, hp⟩
      have ha := h1 a (by simp)
      by_cases h : p a = true
      · rw [if_pos h, if_pos (ha h)]; omega
      · rw [if_neg h]; omega

section
variable {P : Hop → Prop} {to : Int}
open Classical in
theorem rn_still (hto : inR to = true) : ∀ k : Nat, (∃ m, m ≤ k ∧ ∀ x : Nat, x < 8 → Rn P (m + 1) x to → Rn P m x to) ∨ k + 1 ≤ (List.range 8).countP fun (x : Nat) => decide (Rn P k (x : Int) to)
  | 0 => by
    have ht := inR_iff.1 hto
    refine .inr ?_
    have := List.countP_pos_iff (l := List.range 8) (p := fun (x : Nat) => decide (Rn P 0 (x : Int) to))
    exact this.2 ⟨to.toNat, by simp; omega, decide_eq_true (show ((to.toNat : Nat) : Int) = to by omega)⟩
  | k + 1 => by
    rcases rn_still hto k with ⟨m, hm, h⟩ | h
    · exact .inl ⟨m, by omega, h⟩
    · by_cases hs : ∀ x : Nat, x < 8 → Rn P (k + 1) x to → Rn P k x to
      · exact .inl ⟨k, by omega, hs⟩
      · refine .inr (Nat.lt_of_le_of_lt h (countP_lt (fun x _ hx => ?_) ?_))
        · simp only [decide_eq_true_eq] at hx ⊢
          exact Rn.mono (Nat.le_succ k) hx
        · have ⟨x, hx⟩ := Classical.not_forall.1 hs
          have ⟨h8, hx⟩ := Classical.not_imp.1 hx
          have ⟨h1, h2⟩ := Classical.not_imp.1 hx
          exact ⟨x, by simpa using h8, by simpa using h1, by simpa using h2⟩

theorem rn8 (hin : ∀ h, P h → inR h.1 = true ∧ inR h.2 = true) (hto : inR to = true) {n : Nat} {a : Int} (ha : inR a = true) (h : Rn P n a to) : Rn P 8 a to := by
  classical
  have hm : ∃ m, m ≤ 8 ∧ ∀ x : Nat, x < 8 → Rn P (m + 1) x to → Rn P m x to := by
    rcases rn_still (P := P) hto 8 with h | h
    · exact h
    · have := List.countP_le_length (p := fun (x : Nat) => decide (Rn P 8 (x : Int) to)) (l := List.range 8)
      simp at this
      omega
  obtain ⟨m, hm8, hm⟩ := hm
  have hm' : ∀ x : Int, inR x = true → Rn P (m + 1) x to → Rn P m x to := fun x hx h => by
    have hx := inR_iff.1 hx
    have := hm x.toNat (by omega)
    rw [Int.toNat_of_nonneg hx.1] at this
    exact this h
  suffices hs : ∀ (k : Nat) (x : Int), inR x = true → Rn P (m + k) x to → Rn P m x to by
    by_cases hnm : n ≤ m
    · exact (h.mono hnm).mono hm8
    · exact (hs (n - m) a ha (h.mono (by omega))).mono hm8
  intro k
  induction k with
  | zero => exact fun x _ h => h
  | succ k ih =>
    intro x hx h
    rcases Rn.head.1 h with h | ⟨c, hp, h⟩
    · exact ih x hx h
    · exact hm' x hx (Rn.head.2 (.inr ⟨c, hp, ih c (hin _ hp).2 h⟩))
end

open Classical in
noncomputable def mustP (l : List Hop) (fr to : Int) (r : Int) : Bool := decide (r ≠ fr ∧ r ≠ to ∧ ¬ ∃ n, Rn (Pout l r) n fr to)
open Classical in
theorem mustP_t {l : List Hop} {fr to r : Int} (h : r ≠ fr ∧ r ≠ to ∧ ¬ ∃ n, Rn (Pout l r) n fr to) : mustP l fr to r = true := decide_eq_true h
open Classical in
theorem mustP_f {l : List Hop} {fr to r : Int} (h : ¬ (r ≠ fr ∧ r ≠ to ∧ ¬ ∃ n, Rn (Pout l r) n fr to)) : mustP l fr to r = false := decide_eq_false h
noncomputable def mustL (l : List Hop) (fr to : Int) : List Int := if (routeL l fr to).length = 0 then [] else selN (mustP l fr to) 8

theorem routeL_ok {l : List Hop} {fr to : Int} (h : ¬ (routeL l fr to).length = 0) : hopsOk l = true ∧ inR fr = true ∧ inR to = true ∧ 0 ≤ Dn (· ∈ l) to 8 fr := by
  unfold routeL at h
  split at h
  · assumption
  · simp at h

/-- A row of numbers of its own that is empty as yet. -/
theorem own_new {H : Hp} : SlI (H ++ [[]]) (.slice (some ⟨H.length, 0, some 1⟩) 0 (0 * 1)) [] := .inr ⟨H.length, 0, 0, [], rfl, by simp, by simp, by simp, by simp, fun i a hi => by simp at hi⟩

theorem f29 {m : Md} {H : Hp} {u : Value} {l : List Hop} {fr to : Int} (hu : Sl (En eH) 2 H u l) (hw : Wr m H) : Fun EE m 29 [u, .int .i64 fr, .int .i64 to] H fun r H' => FreshS eI 1 H r H' (mustL l fr to) := by
  refine fun_f rfl rfl k29 (by simp [c29]) ?_
  have p0 : H <+: H ++ [[]] := List.prefix_append _ _
  have hu0 := hu.pre p0
  have w0 := hw.pre p0
  have s0 : SlI (H ++ [[]]) (.slice (some ⟨H.length, 0, some 1⟩) 0 (0 * 1)) [] := own_new
  have o0 : OwnS H.length (.slice (some ⟨H.length, 0, some 1⟩) 0 (0 * 1)) := .inr ⟨_, _, _, _, rfl, Nat.le_refl _⟩
  generalize hwv : Value.slice (some ⟨H.length, 0, some 1⟩) 0 (0 * 1) = wv0 at s0 o0
  simp only [go_nil, go_blk, go_skip, go_ret, go_exit, go_seq, go_block, go_reg, go_r0, go_r, go_d0, go_d, go_cond, go_o, go_g, aft_some, cnd_bool, grd_bool, grd_tup, brT_true, brT_false, brT_not, thr_exit, thr_c, thr_nil, stp, stepK, movK, mv1, ex, exv, exvs, upd_some, upd_none, ini, St.val, binK, binV, ofV, pickK, unK, unV, beqK, beq_true, beq_false, if_true, if_false, List.getElem?_cons_zero, List.getElem?_cons_succ, ↓reduceIte, Nat.reduceEqDiff, reduceCtorEq, loadK, adr, deref, Ad.fv, Ad.live, fadrK, List.length_cons, List.length_nil, List.drop_zero, List.drop_succ_cons, List.take_succ_cons, List.take_zero, Nat.reduceAdd, Nat.reduceLeDiff, Nat.zero_add, Nat.add_zero, aeqK, agEq, scEq, boxVK, newVK, exc, vc_agg, vc_int, vc_bool, vc_str, vc_ptr, vc_sl, vc_fn, boxOf, adInf, List.reverse_cons, List.reverse_nil, List.nil_append, List.cons_append, extK, Bool.and_true, Bool.true_and, Bool.not_true, Bool.not_false, resT, resVs, resV, true_and, and_true, storeK, spl_nil, spl_z, spl_1, spl_2, spl_3, spl_4, spl_5, spl_6, spl_7, spl_8, scal_int, scal_bool, scal_str, scal_nil, implies_true, Bool.and_self, Post_ret, Post_normal, PostS_ret, PostS_normal, retT_true, retT_false, flat_bool, flat_int, flat_str, List.take_length, decide_true, decide_false, Option.some.injEq, Value.bool.injEq, Value.int.injEq, Bool.false_and, Bool.and_false, not_false_eq_true, not_true_eq_false, toIntK, List.length_set, Nat.reduceMul, Bool.not_eq_true, Bool.not_eq_false, List.all_cons, List.all_nil, exps, fillL, buildK, strK, nilcK, fnK, callVT, List.size_toArray, List.append_nil, List.singleton_append, boxOK, newOK, scal_nil, List.isEmpty_nil, List.isEmpty_cons, mkVK, mkOK, mkCells, zeros_0, zeros_1, zeros_2, zeros_3, zeros_4, List.map_cons, List.map_nil, c29, fillL, hwv]
  refine callT_to (fun m' h => f24 (fr := fr) (to := to) hu0 h) rfl w0 fun rv H1 ⟨p1, s1, o1⟩ => ?_
  simp only [go_nil, go_blk, go_skip, go_ret, go_exit, go_seq, go_block, go_reg, go_r0, go_r, go_d0, go_d, go_cond, go_o, go_g, aft_some, cnd_bool, grd_bool, grd_tup, brT_true, brT_false, brT_not, thr_exit, thr_c, thr_nil, stp, stepK, movK, mv1, ex, exv, exvs, upd_some, upd_none, ini, St.val, binK, binV, ofV, pickK, unK, unV, beqK, beq_true, beq_false, if_true, if_false, List.getElem?_cons_zero, List.getElem?_cons_succ, ↓reduceIte, Nat.reduceEqDiff, reduceCtorEq, loadK, adr, deref, Ad.fv, Ad.live, fadrK, List.length_cons, List.length_nil, List.drop_zero, List.drop_succ_cons, List.take_succ_cons, List.take_zero, Nat.reduceAdd, Nat.reduceLeDiff, Nat.zero_add, Nat.add_zero, aeqK, agEq, scEq, boxVK, newVK, exc, vc_agg, vc_int, vc_bool, vc_str, vc_ptr, vc_sl, vc_fn, boxOf, adInf, List.reverse_cons, List.reverse_nil, List.nil_append, List.cons_append, extK, Bool.and_true, Bool.true_and, Bool.not_true, Bool.not_false, resT, resVs, resV, true_and, and_true, storeK, spl_nil, spl_z, spl_1, spl_2, spl_3, spl_4, spl_5, spl_6, spl_7, spl_8, scal_int, scal_bool, scal_str, scal_nil, implies_true, Bool.and_self, Post_ret, Post_normal, PostS_ret, PostS_normal, retT_true, retT_false, flat_bool, flat_int, flat_str, List.take_length, decide_true, decide_false, Option.some.injEq, Value.bool.injEq, Value.int.injEq, Bool.false_and, Bool.and_false, not_false_eq_true, not_true_eq_false, toIntK, List.length_set, Nat.reduceMul, Bool.not_eq_true, Bool.not_eq_false, List.all_cons, List.all_nil, exps, fillL, buildK, strK, nilcK, fnK, callVT, List.size_toArray, List.append_nil, List.singleton_append, boxOK, newOK, scal_nil, List.isEmpty_nil, List.isEmpty_cons, mkVK, mkOK, mkCells, zeros_0, zeros_1, zeros_2, zeros_3, zeros_4, List.map_cons, List.map_nil, s1.len]
  refine brT.intro (fun q0 => ?_) (fun q0 => ?_) <;> simp only [go_nil, go_blk, go_skip, go_ret, go_exit, go_seq, go_block, go_reg, go_r0, go_r, go_d0, go_d, go_cond, go_o, go_g, aft_some, cnd_bool, grd_bool, grd_tup, brT_true, brT_false, brT_not, thr_exit, thr_c, thr_nil, stp, stepK, movK, mv1, ex, exv, exvs, upd_some, upd_none, ini, St.val, binK, binV, ofV, pickK, unK, unV, beqK, beq_true, beq_false, if_true, if_false, List.getElem?_cons_zero, List.getElem?_cons_succ, ↓reduceIte, Nat.reduceEqDiff, reduceCtorEq, loadK, adr, deref, Ad.fv, Ad.live, fadrK, List.length_cons, List.length_nil, List.drop_zero, List.drop_succ_cons, List.take_succ_cons, List.take_zero, Nat.reduceAdd, Nat.reduceLeDiff, Nat.zero_add, Nat.add_zero, aeqK, agEq, scEq, boxVK, newVK, exc, vc_agg, vc_int, vc_bool, vc_str, vc_ptr, vc_sl, vc_fn, boxOf, adInf, List.reverse_cons, List.reverse_nil, List.nil_append, List.cons_append, extK, Bool.and_true, Bool.true_and, Bool.not_true, Bool.not_false, resT, resVs, resV, true_and, and_true, storeK, spl_nil, spl_z, spl_1, spl_2, spl_3, spl_4, spl_5, spl_6, spl_7, spl_8, scal_int, scal_bool, scal_str, scal_nil, implies_true, Bool.and_self, Post_ret, Post_normal, PostS_ret, PostS_normal, retT_true, retT_false, flat_bool, flat_int, flat_str, List.take_length, decide_true, decide_false, Option.some.injEq, Value.bool.injEq, Value.int.injEq, Bool.false_and, Bool.and_false, not_false_eq_true, not_true_eq_false, toIntK, List.length_set, Nat.reduceMul, Bool.not_eq_true, Bool.not_eq_false, List.all_cons, List.all_nil, exps, fillL, buildK, strK, nilcK, fnK, callVT, List.size_toArray, List.append_nil, List.singleton_append, boxOK, newOK, scal_nil, List.isEmpty_nil, List.isEmpty_cons, mkVK, mkOK, mkCells, zeros_0, zeros_1, zeros_2, zeros_3, zeros_4, List.map_cons, List.map_nil]
  · have q : (routeL l fr to).length = 0 := by have := of_decide_eq_true q0; omega
    unfold mustL
    rw [if_pos q]
    exact ⟨p0.trans p1, s0.pre p1, o0⟩
  have q : ¬ (routeL l fr to).length = 0 := by have := of_decide_eq_false q0; omega
  unfold mustL
  rw [if_neg q]
  obtain ⟨hh, hf, ht, _⟩ := routeL_ok q
  obtain ⟨hle, hin⟩ := hopsOk_in hh
  obtain ⟨a, rfl, ha8⟩ : ∃ a : Nat, fr = a ∧ a < 8 := by have := inR_iff.1 hf; exact ⟨fr.toNat, by omega, by omega⟩
  refine go_for 8 (fun i s => H <+: s.H ∧ s.ρ 0 = .val u ∧ s.ρ 1 = .val (.int .i64 a) ∧ s.ρ 2 = .val (.int .i64 to) ∧ s.ρ 8 = .val (.int .i64 i) ∧ ∃ wv, s.ρ 7 = .val wv ∧ SlI s.H wv (selN (mustP l a to) i) ∧ OwnS H.length wv)
    (fun s => H <+: s.H ∧ ∃ wv, s.ρ 7 = .val wv ∧ SlI s.H wv (selN (mustP l a to) 8) ∧ OwnS H.length wv) ?_ ?_ ?_
  · exact ⟨p0.trans p1, by simp [upd, ini], by simp [upd, ini], by simp [upd, ini], by simp [upd], wv0, by simp [upd], s0.pre p1, o0⟩
  · rintro i s hi ⟨kH, k0, k1, k2, k8, wv, k7, ks, ko⟩
    have kw := hw.pre kH
    have ku := hu.pre kH
    have next : i < 8 → mustP l a to i = false → i < 8 ∧ H <+: s.H ∧ FV.val (Value.int .i64 ((i : Int) + 1)) = FV.val (.int .i64 ((i + 1 : Nat) : Int)) ∧ ∃ wv', FV.val wv = FV.val wv' ∧ SlI s.H wv' (selN (mustP l a to) (i + 1)) ∧ OwnS H.length wv' := fun h8 hp => ⟨h8, kH, by simp, wv, rfl, by rw [selN_no hp]; exact ks, ko⟩
    simp only [go_nil, go_blk, go_skip, go_ret, go_exit, go_seq, go_block, go_reg, go_r0, go_r, go_d0, go_d, go_cond, go_o, go_g, aft_some, cnd_bool, grd_bool, grd_tup, brT_true, brT_false, brT_not, thr_exit, thr_c, thr_nil, stp, stepK, movK, mv1, ex, exv, exvs, upd_some, upd_none, ini, St.val, binK, binV, ofV, pickK, unK, unV, beqK, beq_true, beq_false, if_true, if_false, List.getElem?_cons_zero, List.getElem?_cons_succ, ↓reduceIte, Nat.reduceEqDiff, reduceCtorEq, loadK, adr, deref, Ad.fv, Ad.live, fadrK, List.length_cons, List.length_nil, List.drop_zero, List.drop_succ_cons, List.take_succ_cons, List.take_zero, Nat.reduceAdd, Nat.reduceLeDiff, Nat.zero_add, Nat.add_zero, aeqK, agEq, scEq, boxVK, newVK, exc, vc_agg, vc_int, vc_bool, vc_str, vc_ptr, vc_sl, vc_fn, boxOf, adInf, List.reverse_cons, List.reverse_nil, List.nil_append, List.cons_append, extK, Bool.and_true, Bool.true_and, Bool.not_true, Bool.not_false, resT, resVs, resV, true_and, and_true, storeK, spl_nil, spl_z, spl_1, spl_2, spl_3, spl_4, spl_5, spl_6, spl_7, spl_8, scal_int, scal_bool, scal_str, scal_nil, implies_true, Bool.and_self, Post_ret, Post_normal, PostS_ret, PostS_normal, retT_true, retT_false, flat_bool, flat_int, flat_str, List.take_length, decide_true, decide_false, Option.some.injEq, Value.bool.injEq, Value.int.injEq, Bool.false_and, Bool.and_false, not_false_eq_true, not_true_eq_false, toIntK, List.length_set, Nat.reduceMul, Bool.not_eq_true, Bool.not_eq_false, List.all_cons, List.all_nil, exps, fillL, buildK, strK, nilcK, fnK, callVT, List.size_toArray, List.append_nil, List.singleton_append, boxOK, newOK, scal_nil, List.isEmpty_nil, List.isEmpty_cons, mkVK, mkOK, mkCells, zeros_0, zeros_1, zeros_2, zeros_3, zeros_4, List.map_cons, List.map_nil, k0, k1, k2, k7, k8]
    refine brT.intro (fun c1 => ?_) (fun c1 => ?_) <;> simp only [go_nil, go_blk, go_skip, go_ret, go_exit, go_seq, go_block, go_reg, go_r0, go_r, go_d0, go_d, go_cond, go_o, go_g, aft_some, cnd_bool, grd_bool, grd_tup, brT_true, brT_false, brT_not, thr_exit, thr_c, thr_nil, stp, stepK, movK, mv1, ex, exv, exvs, upd_some, upd_none, ini, St.val, binK, binV, ofV, pickK, unK, unV, beqK, beq_true, beq_false, if_true, if_false, List.getElem?_cons_zero, List.getElem?_cons_succ, ↓reduceIte, Nat.reduceEqDiff, reduceCtorEq, loadK, adr, deref, Ad.fv, Ad.live, fadrK, List.length_cons, List.length_nil, List.drop_zero, List.drop_succ_cons, List.take_succ_cons, List.take_zero, Nat.reduceAdd, Nat.reduceLeDiff, Nat.zero_add, Nat.add_zero, aeqK, agEq, scEq, boxVK, newVK, exc, vc_agg, vc_int, vc_bool, vc_str, vc_ptr, vc_sl, vc_fn, boxOf, adInf, List.reverse_cons, List.reverse_nil, List.nil_append, List.cons_append, extK, Bool.and_true, Bool.true_and, Bool.not_true, Bool.not_false, resT, resVs, resV, true_and, and_true, storeK, spl_nil, spl_z, spl_1, spl_2, spl_3, spl_4, spl_5, spl_6, spl_7, spl_8, scal_int, scal_bool, scal_str, scal_nil, implies_true, Bool.and_self, Post_ret, Post_normal, PostS_ret, PostS_normal, retT_true, retT_false, flat_bool, flat_int, flat_str, List.take_length, decide_true, decide_false, Option.some.injEq, Value.bool.injEq, Value.int.injEq, Bool.false_and, Bool.and_false, not_false_eq_true, not_true_eq_false, toIntK, List.length_set, Nat.reduceMul, Bool.not_eq_true, Bool.not_eq_false, List.all_cons, List.all_nil, exps, fillL, buildK, strK, nilcK, fnK, callVT, List.size_toArray, List.append_nil, List.singleton_append, boxOK, newOK, scal_nil, List.isEmpty_nil, List.isEmpty_cons, mkVK, mkOK, mkCells, zeros_0, zeros_1, zeros_2, zeros_3, zeros_4, List.map_cons, List.map_nil, k0, k1, k2, k7, k8]
    · have h8 : i < 8 := by have := of_decide_eq_true c1; omega
      refine brT.intro (fun c2 => ?_) (fun c2 => ?_) <;> simp only [go_nil, go_blk, go_skip, go_ret, go_exit, go_seq, go_block, go_reg, go_r0, go_r, go_d0, go_d, go_cond, go_o, go_g, aft_some, cnd_bool, grd_bool, grd_tup, brT_true, brT_false, brT_not, thr_exit, thr_c, thr_nil, stp, stepK, movK, mv1, ex, exv, exvs, upd_some, upd_none, ini, St.val, binK, binV, ofV, pickK, unK, unV, beqK, beq_true, beq_false, if_true, if_false, List.getElem?_cons_zero, List.getElem?_cons_succ, ↓reduceIte, Nat.reduceEqDiff, reduceCtorEq, loadK, adr, deref, Ad.fv, Ad.live, fadrK, List.length_cons, List.length_nil, List.drop_zero, List.drop_succ_cons, List.take_succ_cons, List.take_zero, Nat.reduceAdd, Nat.reduceLeDiff, Nat.zero_add, Nat.add_zero, aeqK, agEq, scEq, boxVK, newVK, exc, vc_agg, vc_int, vc_bool, vc_str, vc_ptr, vc_sl, vc_fn, boxOf, adInf, List.reverse_cons, List.reverse_nil, List.nil_append, List.cons_append, extK, Bool.and_true, Bool.true_and, Bool.not_true, Bool.not_false, resT, resVs, resV, true_and, and_true, storeK, spl_nil, spl_z, spl_1, spl_2, spl_3, spl_4, spl_5, spl_6, spl_7, spl_8, scal_int, scal_bool, scal_str, scal_nil, implies_true, Bool.and_self, Post_ret, Post_normal, PostS_ret, PostS_normal, retT_true, retT_false, flat_bool, flat_int, flat_str, List.take_length, decide_true, decide_false, Option.some.injEq, Value.bool.injEq, Value.int.injEq, Bool.false_and, Bool.and_false, not_false_eq_true, not_true_eq_false, toIntK, List.length_set, Nat.reduceMul, Bool.not_eq_true, Bool.not_eq_false, List.all_cons, List.all_nil, exps, fillL, buildK, strK, nilcK, fnK, callVT, List.size_toArray, List.append_nil, List.singleton_append, boxOK, newOK, scal_nil, List.isEmpty_nil, List.isEmpty_cons, mkVK, mkOK, mkCells, zeros_0, zeros_1, zeros_2, zeros_3, zeros_4, List.map_cons, List.map_nil, c2, k0, k1, k2, k7, k8, wrap64 ((i : Int) + 1) (by omega) (by omega)]
      · refine next h8 (mustP_f fun h => h.1 (of_decide_eq_true c2))
      · refine brT.intro (fun c3 => ?_) (fun c3 => ?_) <;> simp only [go_nil, go_blk, go_skip, go_ret, go_exit, go_seq, go_block, go_reg, go_r0, go_r, go_d0, go_d, go_cond, go_o, go_g, aft_some, cnd_bool, grd_bool, grd_tup, brT_true, brT_false, brT_not, thr_exit, thr_c, thr_nil, stp, stepK, movK, mv1, ex, exv, exvs, upd_some, upd_none, ini, St.val, binK, binV, ofV, pickK, unK, unV, beqK, beq_true, beq_false, if_true, if_false, List.getElem?_cons_zero, List.getElem?_cons_succ, ↓reduceIte, Nat.reduceEqDiff, reduceCtorEq, loadK, adr, deref, Ad.fv, Ad.live, fadrK, List.length_cons, List.length_nil, List.drop_zero, List.drop_succ_cons, List.take_succ_cons, List.take_zero, Nat.reduceAdd, Nat.reduceLeDiff, Nat.zero_add, Nat.add_zero, aeqK, agEq, scEq, boxVK, newVK, exc, vc_agg, vc_int, vc_bool, vc_str, vc_ptr, vc_sl, vc_fn, boxOf, adInf, List.reverse_cons, List.reverse_nil, List.nil_append, List.cons_append, extK, Bool.and_true, Bool.true_and, Bool.not_true, Bool.not_false, resT, resVs, resV, true_and, and_true, storeK, spl_nil, spl_z, spl_1, spl_2, spl_3, spl_4, spl_5, spl_6, spl_7, spl_8, scal_int, scal_bool, scal_str, scal_nil, implies_true, Bool.and_self, Post_ret, Post_normal, PostS_ret, PostS_normal, retT_true, retT_false, flat_bool, flat_int, flat_str, List.take_length, decide_true, decide_false, Option.some.injEq, Value.bool.injEq, Value.int.injEq, Bool.false_and, Bool.and_false, not_false_eq_true, not_true_eq_false, toIntK, List.length_set, Nat.reduceMul, Bool.not_eq_true, Bool.not_eq_false, List.all_cons, List.all_nil, exps, fillL, buildK, strK, nilcK, fnK, callVT, List.size_toArray, List.append_nil, List.singleton_append, boxOK, newOK, scal_nil, List.isEmpty_nil, List.isEmpty_cons, mkVK, mkOK, mkCells, zeros_0, zeros_1, zeros_2, zeros_3, zeros_4, List.map_cons, List.map_nil, c2, c3, k0, k1, k2, k7, k8, wrap64 ((i : Int) + 1) (by omega) (by omega)]
        · refine next h8 (mustP_f fun h => h.2.1 (of_decide_eq_true c3))
        · refine callT_to (fun m' h => f63 (out := (i : Int)) ku hle hin ht h) rfl kw fun fv H2 ⟨p2, s2, o2⟩ => ?_
          obtain ⟨id, p, o, ho, hr, hia⟩ := s2.int (farL_get ha8)
          simp only [go_nil, go_blk, go_skip, go_ret, go_exit, go_seq, go_block, go_reg, go_r0, go_r, go_d0, go_d, go_cond, go_o, go_g, aft_some, cnd_bool, grd_bool, grd_tup, brT_true, brT_false, brT_not, thr_exit, thr_c, thr_nil, stp, stepK, movK, mv1, ex, exv, exvs, upd_some, upd_none, ini, St.val, binK, binV, ofV, pickK, unK, unV, beqK, beq_true, beq_false, if_true, if_false, List.getElem?_cons_zero, List.getElem?_cons_succ, ↓reduceIte, Nat.reduceEqDiff, reduceCtorEq, loadK, adr, deref, Ad.fv, Ad.live, fadrK, List.length_cons, List.length_nil, List.drop_zero, List.drop_succ_cons, List.take_succ_cons, List.take_zero, Nat.reduceAdd, Nat.reduceLeDiff, Nat.zero_add, Nat.add_zero, aeqK, agEq, scEq, boxVK, newVK, exc, vc_agg, vc_int, vc_bool, vc_str, vc_ptr, vc_sl, vc_fn, boxOf, adInf, List.reverse_cons, List.reverse_nil, List.nil_append, List.cons_append, extK, Bool.and_true, Bool.true_and, Bool.not_true, Bool.not_false, resT, resVs, resV, true_and, and_true, storeK, spl_nil, spl_z, spl_1, spl_2, spl_3, spl_4, spl_5, spl_6, spl_7, spl_8, scal_int, scal_bool, scal_str, scal_nil, implies_true, Bool.and_self, Post_ret, Post_normal, PostS_ret, PostS_normal, retT_true, retT_false, flat_bool, flat_int, flat_str, List.take_length, decide_true, decide_false, Option.some.injEq, Value.bool.injEq, Value.int.injEq, Bool.false_and, Bool.and_false, not_false_eq_true, not_true_eq_false, toIntK, List.length_set, Nat.reduceMul, Bool.not_eq_true, Bool.not_eq_false, List.all_cons, List.all_nil, exps, fillL, buildK, strK, nilcK, fnK, callVT, List.size_toArray, List.append_nil, List.singleton_append, boxOK, newOK, scal_nil, List.isEmpty_nil, List.isEmpty_cons, mkVK, mkOK, mkCells, zeros_0, zeros_1, zeros_2, zeros_3, zeros_4, List.map_cons, List.map_nil, c2, c3, k0, k1, k2, k7, k8, hia, ho, hr]
          have key : Dn (Pout l i) to 8 a < 0 ↔ ¬ ∃ n, Rn (Pout l i) n a to := by
            have h1 := Dn.nonneg (P := Pout l i) (to := to) (k := 8) (x := (a : Int))
            constructor
            · rintro h2 ⟨n, hn⟩
              have := h1.2 (rn8 (fun h hp => hin h hp.1) ht hf hn)
              omega
            · intro h2
              have : ¬ 0 ≤ Dn (Pout l i) to 8 a := fun h3 => h2 ⟨8, h1.1 h3⟩
              omega
          refine brT.intro (fun c4 => ?_) (fun c4 => ?_) <;> simp only [go_nil, go_blk, go_skip, go_ret, go_exit, go_seq, go_block, go_reg, go_r0, go_r, go_d0, go_d, go_cond, go_o, go_g, aft_some, cnd_bool, grd_bool, grd_tup, brT_true, brT_false, brT_not, thr_exit, thr_c, thr_nil, stp, stepK, movK, mv1, ex, exv, exvs, upd_some, upd_none, ini, St.val, binK, binV, ofV, pickK, unK, unV, beqK, beq_true, beq_false, if_true, if_false, List.getElem?_cons_zero, List.getElem?_cons_succ, ↓reduceIte, Nat.reduceEqDiff, reduceCtorEq, loadK, adr, deref, Ad.fv, Ad.live, fadrK, List.length_cons, List.length_nil, List.drop_zero, List.drop_succ_cons, List.take_succ_cons, List.take_zero, Nat.reduceAdd, Nat.reduceLeDiff, Nat.zero_add, Nat.add_zero, aeqK, agEq, scEq, boxVK, newVK, exc, vc_agg, vc_int, vc_bool, vc_str, vc_ptr, vc_sl, vc_fn, boxOf, adInf, List.reverse_cons, List.reverse_nil, List.nil_append, List.cons_append, extK, Bool.and_true, Bool.true_and, Bool.not_true, Bool.not_false, resT, resVs, resV, true_and, and_true, storeK, spl_nil, spl_z, spl_1, spl_2, spl_3, spl_4, spl_5, spl_6, spl_7, spl_8, scal_int, scal_bool, scal_str, scal_nil, implies_true, Bool.and_self, Post_ret, Post_normal, PostS_ret, PostS_normal, retT_true, retT_false, flat_bool, flat_int, flat_str, List.take_length, decide_true, decide_false, Option.some.injEq, Value.bool.injEq, Value.int.injEq, Bool.false_and, Bool.and_false, not_false_eq_true, not_true_eq_false, toIntK, List.length_set, Nat.reduceMul, Bool.not_eq_true, Bool.not_eq_false, List.all_cons, List.all_nil, exps, fillL, buildK, strK, nilcK, fnK, callVT, List.size_toArray, List.append_nil, List.singleton_append, boxOK, newOK, scal_nil, List.isEmpty_nil, List.isEmpty_cons, mkVK, mkOK, mkCells, zeros_0, zeros_1, zeros_2, zeros_3, zeros_4, List.map_cons, List.map_nil, c2, c3, k0, k1, k2, k7, k8, wrap64 ((i : Int) + 1) (by omega) (by omega)]
          · have hp : mustP l a to i = true := mustP_t ⟨of_decide_eq_false c2, of_decide_eq_false c3, key.1 (of_decide_eq_true c4)⟩
            have hlen := selN_len (mustP l a to) i
            obtain ⟨v3, H3, d1, d2, d3, d4, d5, d6, d7⟩ := (ks.pre p2).one (m := m) (i : Int) ko (Nat.le_trans kH.length_le p2.length_le) hw (by omega)
            rw [d1]
            rotate_left
            · rfl
            · rfl
            · rfl
            simp only [go_nil, go_blk, go_skip, go_ret, go_exit, go_seq, go_block, go_reg, go_r0, go_r, go_d0, go_d, go_cond, go_o, go_g, aft_some, cnd_bool, grd_bool, grd_tup, brT_true, brT_false, brT_not, thr_exit, thr_c, thr_nil, stp, stepK, movK, mv1, ex, exv, exvs, upd_some, upd_none, ini, St.val, binK, binV, ofV, pickK, unK, unV, beqK, beq_true, beq_false, if_true, if_false, List.getElem?_cons_zero, List.getElem?_cons_succ, ↓reduceIte, Nat.reduceEqDiff, reduceCtorEq, loadK, adr, deref, Ad.fv, Ad.live, fadrK, List.length_cons, List.length_nil, List.drop_zero, List.drop_succ_cons, List.take_succ_cons, List.take_zero, Nat.reduceAdd, Nat.reduceLeDiff, Nat.zero_add, Nat.add_zero, aeqK, agEq, scEq, boxVK, newVK, exc, vc_agg, vc_int, vc_bool, vc_str, vc_ptr, vc_sl, vc_fn, boxOf, adInf, List.reverse_cons, List.reverse_nil, List.nil_append, List.cons_append, extK, Bool.and_true, Bool.true_and, Bool.not_true, Bool.not_false, resT, resVs, resV, true_and, and_true, storeK, spl_nil, spl_z, spl_1, spl_2, spl_3, spl_4, spl_5, spl_6, spl_7, spl_8, scal_int, scal_bool, scal_str, scal_nil, implies_true, Bool.and_self, Post_ret, Post_normal, PostS_ret, PostS_normal, retT_true, retT_false, flat_bool, flat_int, flat_str, List.take_length, decide_true, decide_false, Option.some.injEq, Value.bool.injEq, Value.int.injEq, Bool.false_and, Bool.and_false, not_false_eq_true, not_true_eq_false, toIntK, List.length_set, Nat.reduceMul, Bool.not_eq_true, Bool.not_eq_false, List.all_cons, List.all_nil, exps, fillL, buildK, strK, nilcK, fnK, callVT, List.size_toArray, List.append_nil, List.singleton_append, boxOK, newOK, scal_nil, List.isEmpty_nil, List.isEmpty_cons, mkVK, mkOK, mkCells, zeros_0, zeros_1, zeros_2, zeros_3, zeros_4, List.map_cons, List.map_nil, k0, k1, k2, k7, k8, wrap64 ((i : Int) + 1) (by omega) (by omega)]
            exact ⟨h8, d7 H (Nat.le_refl _) (kH.trans p2), by simp, v3, rfl, by rw [selN_yes hp]; exact d2, d3⟩
          · obtain ⟨_, n2, n3, wv', n4, n5, n6⟩ := next h8 (mustP_f fun h => of_decide_eq_false c4 (key.2 h.2.2))
            exact ⟨h8, n2.trans p2, n3, wv', n4, n5.pre p2, n6⟩
    · have : i = 8 := by have := of_decide_eq_false c1; omega
      subst this
      exact ⟨kH, wv, rfl, ks, ko⟩
  · rintro s ⟨kH, wv, k7, ks, ko⟩
    simp only [go_nil, go_blk, go_skip, go_ret, go_exit, go_seq, go_block, go_reg, go_r0, go_r, go_d0, go_d, go_cond, go_o, go_g, aft_some, cnd_bool, grd_bool, grd_tup, brT_true, brT_false, brT_not, thr_exit, thr_c, thr_nil, stp, stepK, movK, mv1, ex, exv, exvs, upd_some, upd_none, ini, St.val, binK, binV, ofV, pickK, unK, unV, beqK, beq_true, beq_false, if_true, if_false, List.getElem?_cons_zero, List.getElem?_cons_succ, ↓reduceIte, Nat.reduceEqDiff, reduceCtorEq, loadK, adr, deref, Ad.fv, Ad.live, fadrK, List.length_cons, List.length_nil, List.drop_zero, List.drop_succ_cons, List.take_succ_cons, List.take_zero, Nat.reduceAdd, Nat.reduceLeDiff, Nat.zero_add, Nat.add_zero, aeqK, agEq, scEq, boxVK, newVK, exc, vc_agg, vc_int, vc_bool, vc_str, vc_ptr, vc_sl, vc_fn, boxOf, adInf, List.reverse_cons, List.reverse_nil, List.nil_append, List.cons_append, extK, Bool.and_true, Bool.true_and, Bool.not_true, Bool.not_false, resT, resVs, resV, true_and, and_true, storeK, spl_nil, spl_z, spl_1, spl_2, spl_3, spl_4, spl_5, spl_6, spl_7, spl_8, scal_int, scal_bool, scal_str, scal_nil, implies_true, Bool.and_self, Post_ret, Post_normal, PostS_ret, PostS_normal, retT_true, retT_false, flat_bool, flat_int, flat_str, List.take_length, decide_true, decide_false, Option.some.injEq, Value.bool.injEq, Value.int.injEq, Bool.false_and, Bool.and_false, not_false_eq_true, not_true_eq_false, toIntK, List.length_set, Nat.reduceMul, Bool.not_eq_true, Bool.not_eq_false, List.all_cons, List.all_nil, exps, fillL, buildK, strK, nilcK, fnK, callVT, List.size_toArray, List.append_nil, List.singleton_append, boxOK, newOK, scal_nil, List.isEmpty_nil, List.isEmpty_cons, mkVK, mkOK, mkCells, zeros_0, zeros_1, zeros_2, zeros_3, zeros_4, List.map_cons, List.map_nil, k7]
    exact ⟨kH, ks, ko⟩
end Go.Proofs.Ytdplmjlbkaipiaa.Ev
