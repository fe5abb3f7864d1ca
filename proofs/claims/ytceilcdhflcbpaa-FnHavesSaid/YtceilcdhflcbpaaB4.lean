/- Texts of this proof, laid one behind the other: what each shows stands at its head. -/
import Derived.Test.YtceilcdhflcbpaaB3
import Derived.Test.YtceilcdhflcbpaaRows
import Derived.Test.YtceilcdhflcbpaaProg
import Derived.Shelf.Sort.Plain
import Derived.Shelf.Slices.In.SortNone
/- The best have, both ways. -/
namespace Go.Proofs.Ytceilcdhflcbpaa.Ev
set_option linter.all false
open Go
set_option maxRecDepth 4000

abbrev andI (a b : Int) : Int := IntKind.i64.wrap ((BitVec.ofInt IntKind.i64.bits a &&& BitVec.ofInt IntKind.i64.bits b).toNat : Int)
theorem ofInt_nat (a : Nat) (ha : a < 9223372036854775808) : (BitVec.ofInt 64 (a : Int)).toNat = a := by
  rw [BitVec.ofInt_natCast, BitVec.toNat_ofNat]
  exact Nat.mod_eq_of_lt (by omega)
theorem and_nat {a b : Nat} (ha : a < 9223372036854775808) (hb : b < 9223372036854775808) : andI (a : Int) (b : Int) = ((a &&& b : Nat) : Int) := by
  have hx : a &&& b ≤ a := Nat.and_le_left
  show IntKind.i64.wrap ((BitVec.ofInt 64 (a : Int) &&& BitVec.ofInt 64 (b : Int)).toNat : Int) = _
  rw [BitVec.toNat_and, ofInt_nat a ha, ofInt_nat b hb, wrap64 _ (by omega) (by omega)]
theorem and_any {a : Nat} {b : Int} (ha : a < 256) : 0 ≤ andI (a : Int) b ∧ andI (a : Int) b ≤ 255 := by
  have hx : a &&& (BitVec.ofInt 64 b).toNat ≤ a := Nat.and_le_left
  have : andI (a : Int) b = ((a &&& (BitVec.ofInt 64 b).toNat : Nat) : Int) := by
    show IntKind.i64.wrap ((BitVec.ofInt 64 (a : Int) &&& BitVec.ofInt 64 b).toNat : Int) = _
    rw [BitVec.toNat_and, ofInt_nat a (by omega), wrap64 _ (by omega) (by omega)]
  rw [this]
  omega
theorem small_bit {n j : Nat} (hn : n < 256) (hj : 8 ≤ j) : n.testBit j = false :=
  Nat.testBit_lt_two_pow (Nat.lt_of_lt_of_le hn (by rw [show (256 : Nat) = 2 ^ 8 from rfl]; exact Nat.pow_le_pow_right (by omega) hj))
theorem and_16 {n : Nat} (hn : n < 256) : decide (andI (n : Int) 16 = 0) = !n.testBit 4 := by
  rw [show ((16 : Int)) = ((16 : Nat) : Int) from rfl, and_nat (by omega) (by omega)]
  have e : n &&& 16 = if n.testBit 4 then 2 ^ 4 else 0 := by
    refine Nat.eq_of_testBit_eq (fun j => ?_)
    rw [Nat.testBit_and, show (16 : Nat) = 2 ^ 4 from rfl, Nat.testBit_two_pow]
    by_cases hj : 4 = j
    · subst hj
      cases h : n.testBit 4
      · simp
      · simp
        decide
    · cases h : n.testBit 4
      · simp [hj]
      · rw [if_pos rfl, Nat.testBit_two_pow]
        simp [hj]
  rw [e]
  cases h : n.testBit 4 <;> simp
theorem and_all {n m : Nat} (hn : n < 256) (hm : m < 256) : decide (andI (n : Int) (m : Int) = (m : Int)) = under m n 8 := by
  rw [and_nat (by omega) (by omega), Bool.eq_iff_iff, decide_eq_true_eq, under_t]
  constructor
  · intro h j _ hj
    have h : n &&& m = m := by omega
    have := congrArg (fun z => z.testBit j) h
    simp only [Nat.testBit_and, hj, Bool.and_true] at this
    exact this
  · intro h
    have : n &&& m = m := Nat.eq_of_testBit_eq fun j => by
      rw [Nat.testBit_and]
      by_cases hj : j < 8
      · cases h1 : m.testBit j with
        | false => simp
        | true => rw [h j hj h1]; rfl
      · rw [small_bit hm (by omega)]; simp
    omega

def livI (s n fl : Int) (z : Hv) : Bool := decide (z.1 = s) && (inB n z.2.1 z.2.2.1 && (decide (andI z.2.2.2.1 16 = 0) && decide (andI z.2.2.2.1 fl = fl)))
def livN (s n fl : Int) (z : Hv) : Bool := decide (z.1 = s) && (inB n z.2.1 z.2.2.1 && (!(z.2.2.2.1.toNat.testBit 4) && (inB fl 0 255 && under fl.toNat z.2.2.2.1.toNat 8)))
theorem hOk_flags {z : Hv} (h : hOk z = true) : ∃ f : Nat, z.2.2.2.1 = (f : Int) ∧ f < 256 := by
  simp only [hOk, Bool.and_eq_true, inB_t, decide_eq_true_eq] at h
  exact ⟨z.2.2.2.1.toNat, by omega, by omega⟩
theorem liv_eq {s n fl : Int} {z : Hv} (h : hOk z = true) : livI s n fl z = livN s n fl z := by
  obtain ⟨f, e, hf⟩ := hOk_flags h
  unfold livI livN
  rw [e, and_16 hf]
  cases hi : inB fl 0 255 with
  | true =>
    obtain ⟨g, rfl⟩ : ∃ g : Nat, fl = g := ⟨fl.toNat, by have := inB_t.1 hi; omega⟩
    have := inB_t.1 hi
    rw [and_all hf (by omega)]
    simp
  | false =>
    have hn : decide (andI (f : Int) fl = fl) = false := decide_eq_false (fun e => by
      have h1 := and_any (b := fl) hf
      rw [e] at h1
      have : inB fl 0 255 = true := inB_t.2 h1
      rw [hi] at this
      cases this)
    rw [hn]
    simp
def bstep (P : Hv → Bool) (st : Hv × Bool) (z : Hv) : Hv × Bool := if P z = true ∧ (st.2 = false ∨ z.2.2.1 > st.1.2.2.1) then (z, true) else st
def bestF (P : Hv → Bool) (l : List Hv) : Hv × Bool := l.foldl (bstep P) ((0, 0, 0, 0, 0), false)
noncomputable def bestR (l : List Hv) (s n fl : Int) : Hv × Bool := if hvOk l = true then bestF (livN s n fl) l else ((0, 0, 0, 0, 0), false)
theorem bestF_succ {P : Hv → Bool} {l : List Hv} {i : Nat} (h : i < l.length) : bestF P (l.take (i + 1)) = bstep P (bestF P (l.take i)) l[i] := by
  unfold bestF
  rw [List.take_succ_eq_append_getElem h, List.foldl_append]
  rfl
theorem bestF_none {P : Hv → Bool} {l : List Hv} (h : ∀ z ∈ l, P z = false) : bestF P l = ((0, 0, 0, 0, 0), false) := by
  unfold bestF
  have : ∀ (l : List Hv) (st : Hv × Bool), (∀ z ∈ l, P z = false) → l.foldl (bstep P) st = st := by
    intro l
    induction l with
    | nil => intro st _; rfl
    | cons z l ih =>
      intro st h
      rw [List.foldl_cons, show bstep P st z = st by unfold bstep; rw [if_neg (by rw [h z (by simp)]; simp)]]
      exact ih st fun y hy => h y (List.mem_cons_of_mem _ hy)
  exact this l _ h
/-- .. so far. -/
noncomputable def bestI (l : List Hv) (s n fl : Int) (i : Nat) : Hv × Bool := if hvOk l = true then bestF (livN s n fl) (l.take i) else ((0, 0, 0, 0, 0), false)
theorem bestI_0 (l : List Hv) (s n fl : Int) : bestI l s n fl 0 = ((0, 0, 0, 0, 0), false) := by
  unfold bestI bestF
  simp
theorem bestI_len (l : List Hv) (s n fl : Int) : bestI l s n fl l.length = bestR l s n fl := by
  unfold bestI bestR
  rw [List.take_length]
theorem bestI_off {l : List Hv} {s n fl : Int} {i : Nat} (h : hvOk l = false) : bestI l s n fl i = ((0, 0, 0, 0, 0), false) := by
  unfold bestI
  rw [if_neg (by rw [h]; decide)]
theorem bestI_succ {l : List Hv} {s n fl : Int} {i : Nat} (h : i < l.length) (hv : hvOk l = true) : bestI l s n fl (i + 1) = bstep (livN s n fl) (bestI l s n fl i) l[i] := by
  unfold bestI
  rw [if_pos hv, if_pos hv]
  exact bestF_succ h
theorem bestI_no {l : List Hv} {s n fl : Int} {i : Nat} (h : i < l.length) (hn : livN s n fl l[i] = false ∨ ((bestI l s n fl i).2 = true ∧ ¬ l[i].2.2.1 > (bestI l s n fl i).1.2.2.1) ∨ hvOk l = false) : bestI l s n fl (i + 1) = bestI l s n fl i := by
  cases hv : hvOk l with
  | false => rw [bestI_off hv, bestI_off hv]
  | true =>
    rw [bestI_succ h hv]
    unfold bstep
    rcases hn with hn | ⟨h1, h2⟩ | hn
    · rw [if_neg (by rw [hn]; simp)]
    · rw [if_neg (by rw [h1]; rintro ⟨_, h | h⟩; cases h; exact h2 h)]
    · rw [hv] at hn; cases hn
theorem bestI_yes {l : List Hv} {s n fl : Int} {i : Nat} (h : i < l.length) (hv : hvOk l = true) (hn : livN s n fl l[i] = true) (h2 : (bestI l s n fl i).2 = false ∨ l[i].2.2.1 > (bestI l s n fl i).1.2.2.1) : bestI l s n fl (i + 1) = (l[i], true) := by
  rw [bestI_succ h hv]
  unfold bstep
  rw [if_pos ⟨hn, h2⟩]
theorem hv_at {l : List Hv} (hv : hvOk l = true) {i : Nat} (h : i < l.length) : hOk l[i] = true := ((hv_t.1 hv).2 i h).1
theorem f15 {H : Hp} {v : Value} {l : List Hv} {s n fl : Int} (hl : SlHv H v l) : Scal EE 15 [v, .int .i64 s, .int .i64 n, .int .i64 fl] H (.tuple #[vHv (bestR l s n fl).1, .bool (bestR l s n fl).2]) := by
  refine scal_ok rfl rfl k15 (by simp [c15]) rfl fun m hw => ?_
  have hroom := hl.room
  have a12 := fun {m draw t' d ts Q} => callT_at (m := m) (draw := draw) (s := t') (d := d) (ts := ts) (Q := Q) (f12 hl)
  have b0 := bestI_0 l s n fl
  unfold vHv
  simp only [go_sem, ↓reduceIte, Nat.reduceEqDiff, reduceCtorEq, Nat.reduceAdd, Nat.reduceLeDiff, Nat.reduceMul, c15, hl.len, buildK, fillL, exps]
  refine go_for l.length (fun i t => t.H = H ∧ t.ρ 0 = .val v ∧ t.ρ 1 = .val (.int .i64 s) ∧ t.ρ 2 = .val (.int .i64 n) ∧ t.ρ 3 = .val (.int .i64 fl) ∧ t.ρ 8 = .bx 0 [.int .i64 0, .int .i64 0, .int .i64 0, .int .i64 0, .int .i64 0] ∧ t.ρ 10 = .bx 1 (eHv (bestI l s n fl i).1) ∧ t.ρ 11 = .val (.bool (bestI l s n fl i).2) ∧ t.ρ 16 = .val v ∧ t.ρ 17 = .val (.int .i64 l.length) ∧ t.ρ 18 = .val (.int .i64 i))
    (fun t => t.H = H ∧ t.ρ 8 = .bx 0 [.int .i64 0, .int .i64 0, .int .i64 0, .int .i64 0, .int .i64 0] ∧ t.ρ 10 = .bx 1 (eHv (bestR l s n fl).1) ∧ t.ρ 11 = .val (.bool (bestR l s n fl).2)) ?_ ?_ ?_
  · exact ⟨rfl, by simp [upd, ini], by simp [upd, ini], by simp [upd, ini], by simp [upd, ini], by simp [upd], by simp [upd, b0, eHv], by simp [upd, b0], by simp [upd], by simp [upd], by simp [upd]⟩
  · rintro i t hi ⟨tH, t0, t1, t2, t3, t8, t10, t11, t16, t17, t18⟩
    unfold eHv at t10
    simp only [go_sem, ↓reduceIte, Nat.reduceEqDiff, reduceCtorEq, Nat.reduceAdd, Nat.reduceLeDiff, Nat.reduceMul, t0, t1, t2, t3, t8, t10, t11, t16, t17, t18]
    cases q : decide ((i : Int) < (l.length : Int)) <;> simp only [go_sem, ↓reduceIte, Nat.reduceEqDiff, reduceCtorEq, Nat.reduceAdd, Nat.reduceLeDiff, Nat.reduceMul, t0, t1, t2, t3, t8, t10, t11, t16, t17, t18, q]
    · have : i = l.length := by have := of_decide_eq_false q; omega
      subst this
      rw [bestI_len] at *
      exact ⟨tH, rfl, rfl⟩
    have hil : i < l.length := by have := of_decide_eq_true q; omega
    have w1 := wrap64 ((i : Int) + 1) (by omega) (by omega)
    obtain ⟨id, p, o, ho, hr, hp, hia⟩ := hl.elem (List.getElem?_eq_getElem hil)
    have hr : (o.drop p).take 5 = eHv l[i] := hr
    unfold eHv at hr
    have fin : livI s n fl l[i] = false → bestI l s n fl (i + 1) = bestI l s n fl i := fun h => by
      cases hv : hvOk l with
      | false => exact bestI_no hil (.inr (.inr hv))
      | true => exact bestI_no hil (.inl (by rw [← liv_eq (hv_at hv hil)]; exact h))
    simp only [go_sem, ↓reduceIte, Nat.reduceEqDiff, reduceCtorEq, Nat.reduceAdd, Nat.reduceLeDiff, Nat.reduceMul, t0, t1, t2, t3, t8, t10, t11, t16, t17, t18, hia, tH, ho, hr, hp]
    cases q1 : decide (l[i].1 = s) <;> simp only [go_nil, go_blk, go_skip, go_ret, go_exit, go_seq, go_block, go_reg, go_r0, go_r, go_d0, go_d, go_e0, go_e, box2, Option.isSome_some, Nat.le_refl, go_cond, go_o, go_g, aft_some, cnd_bool, grd_bool, grd_tup, brT_true, brT_false, brT_not, thr_exit, thr_c, thr_nil, stp, stepK, movK, mv1, ex, exv, exvs, upd_some, upd_none, ini, St.val, binK, binV, ofV, pickK, unK, unV, beqK, beq_true, beq_false, if_true, if_false, List.getElem?_cons_zero, List.getElem?_cons_succ, ↓reduceIte, Nat.reduceEqDiff, reduceCtorEq, loadK, adr, deref, Ad.fv, Ad.live, fadrK, List.length_cons, List.length_nil, List.drop_zero, List.drop_succ_cons, List.take_succ_cons, List.take_zero, Nat.reduceAdd, Nat.reduceLeDiff, Nat.zero_add, Nat.add_zero, aeqK, agEq, scEq, boxVK, newVK, exc, vc_agg, vc_int, vc_bool, vc_str, vc_ptr, vc_sl, vc_fn, boxOf, adInf, List.reverse_cons, List.reverse_nil, List.nil_append, List.cons_append, extK, Bool.and_true, Bool.true_and, Bool.not_true, Bool.not_false, resT, resVs, resV, true_and, and_true, storeK, spl_nil, spl_z, spl_1, spl_2, spl_3, spl_4, spl_5, spl_6, spl_7, spl_8, scal_int, scal_bool, scal_str, scal_nil, implies_true, Bool.and_self, Post_ret, Post_normal, PostS_ret, PostS_normal, retT_true, retT_false, flat_bool, flat_int, flat_str, List.take_length, decide_true, decide_false, Option.some.injEq, Value.bool.injEq, Value.int.injEq, Bool.false_and, Bool.and_false, not_false_eq_true, not_true_eq_false, toIntK, List.length_set, Nat.reduceMul, Bool.not_eq_true, Bool.not_eq_false, List.all_cons, List.all_nil, exps, fillL, buildK, strK, nilcK, fnK, callVT, List.size_toArray, List.append_nil, List.singleton_append, boxOK, newOK, scal_nil, List.isEmpty_nil, List.isEmpty_cons, mkVK, mkOK, mkCells, zeros_0, zeros_1, zeros_2, zeros_3, zeros_4, List.map_cons, List.map_nil, t0, t1, t2, t3, t8, t10, t11, t16, t17, t18, q1, c48', hw, tH, w1]
    · have e := fin (by unfold livI; rw [q1]; rfl)
      exact ⟨hil, by rw [e]; rfl, by rw [e], by simp⟩
    cases q2 : inB n l[i].2.1 l[i].2.2.1 <;> simp only [go_nil, go_blk, go_skip, go_ret, go_exit, go_seq, go_block, go_reg, go_r0, go_r, go_d0, go_d, go_e0, go_e, box2, Option.isSome_some, Nat.le_refl, go_cond, go_o, go_g, aft_some, cnd_bool, grd_bool, grd_tup, brT_true, brT_false, brT_not, thr_exit, thr_c, thr_nil, stp, stepK, movK, mv1, ex, exv, exvs, upd_some, upd_none, ini, St.val, binK, binV, ofV, pickK, unK, unV, beqK, beq_true, beq_false, if_true, if_false, List.getElem?_cons_zero, List.getElem?_cons_succ, ↓reduceIte, Nat.reduceEqDiff, reduceCtorEq, loadK, adr, deref, Ad.fv, Ad.live, fadrK, List.length_cons, List.length_nil, List.drop_zero, List.drop_succ_cons, List.take_succ_cons, List.take_zero, Nat.reduceAdd, Nat.reduceLeDiff, Nat.zero_add, Nat.add_zero, aeqK, agEq, scEq, boxVK, newVK, exc, vc_agg, vc_int, vc_bool, vc_str, vc_ptr, vc_sl, vc_fn, boxOf, adInf, List.reverse_cons, List.reverse_nil, List.nil_append, List.cons_append, extK, Bool.and_true, Bool.true_and, Bool.not_true, Bool.not_false, resT, resVs, resV, true_and, and_true, storeK, spl_nil, spl_z, spl_1, spl_2, spl_3, spl_4, spl_5, spl_6, spl_7, spl_8, scal_int, scal_bool, scal_str, scal_nil, implies_true, Bool.and_self, Post_ret, Post_normal, PostS_ret, PostS_normal, retT_true, retT_false, flat_bool, flat_int, flat_str, List.take_length, decide_true, decide_false, Option.some.injEq, Value.bool.injEq, Value.int.injEq, Bool.false_and, Bool.and_false, not_false_eq_true, not_true_eq_false, toIntK, List.length_set, Nat.reduceMul, Bool.not_eq_true, Bool.not_eq_false, List.all_cons, List.all_nil, exps, fillL, buildK, strK, nilcK, fnK, callVT, List.size_toArray, List.append_nil, List.singleton_append, boxOK, newOK, scal_nil, List.isEmpty_nil, List.isEmpty_cons, mkVK, mkOK, mkCells, zeros_0, zeros_1, zeros_2, zeros_3, zeros_4, List.map_cons, List.map_nil, t0, t1, t2, t3, t8, t10, t11, t16, t17, t18, q2, tH, w1]
    · have e := fin (by unfold livI; rw [q1, q2]; rfl)
      exact ⟨hil, by rw [e]; rfl, by rw [e], by simp⟩
    cases q3 : decide (andI l[i].2.2.2.1 16 = 0) <;> simp only [go_nil, go_blk, go_skip, go_ret, go_exit, go_seq, go_block, go_reg, go_r0, go_r, go_d0, go_d, go_e0, go_e, box2, Option.isSome_some, Nat.le_refl, go_cond, go_o, go_g, aft_some, cnd_bool, grd_bool, grd_tup, brT_true, brT_false, brT_not, thr_exit, thr_c, thr_nil, stp, stepK, movK, mv1, ex, exv, exvs, upd_some, upd_none, ini, St.val, binK, binV, ofV, pickK, unK, unV, beqK, beq_true, beq_false, if_true, if_false, List.getElem?_cons_zero, List.getElem?_cons_succ, ↓reduceIte, Nat.reduceEqDiff, reduceCtorEq, loadK, adr, deref, Ad.fv, Ad.live, fadrK, List.length_cons, List.length_nil, List.drop_zero, List.drop_succ_cons, List.take_succ_cons, List.take_zero, Nat.reduceAdd, Nat.reduceLeDiff, Nat.zero_add, Nat.add_zero, aeqK, agEq, scEq, boxVK, newVK, exc, vc_agg, vc_int, vc_bool, vc_str, vc_ptr, vc_sl, vc_fn, boxOf, adInf, List.reverse_cons, List.reverse_nil, List.nil_append, List.cons_append, extK, Bool.and_true, Bool.true_and, Bool.not_true, Bool.not_false, resT, resVs, resV, true_and, and_true, storeK, spl_nil, spl_z, spl_1, spl_2, spl_3, spl_4, spl_5, spl_6, spl_7, spl_8, scal_int, scal_bool, scal_str, scal_nil, implies_true, Bool.and_self, Post_ret, Post_normal, PostS_ret, PostS_normal, retT_true, retT_false, flat_bool, flat_int, flat_str, List.take_length, decide_true, decide_false, Option.some.injEq, Value.bool.injEq, Value.int.injEq, Bool.false_and, Bool.and_false, not_false_eq_true, not_true_eq_false, toIntK, List.length_set, Nat.reduceMul, Bool.not_eq_true, Bool.not_eq_false, List.all_cons, List.all_nil, exps, fillL, buildK, strK, nilcK, fnK, callVT, List.size_toArray, List.append_nil, List.singleton_append, boxOK, newOK, scal_nil, List.isEmpty_nil, List.isEmpty_cons, mkVK, mkOK, mkCells, zeros_0, zeros_1, zeros_2, zeros_3, zeros_4, List.map_cons, List.map_nil, t0, t1, t2, t3, t8, t10, t11, t16, t17, t18, q3, tH, w1]
    · have e := fin (by unfold livI; rw [q1, q2, q3]; rfl)
      exact ⟨hil, by rw [e]; rfl, by rw [e], by simp⟩
    cases q4 : decide (andI l[i].2.2.2.1 fl = fl) <;> simp only [go_nil, go_blk, go_skip, go_ret, go_exit, go_seq, go_block, go_reg, go_r0, go_r, go_d0, go_d, go_e0, go_e, box2, Option.isSome_some, Nat.le_refl, go_cond, go_o, go_g, aft_some, cnd_bool, grd_bool, grd_tup, brT_true, brT_false, brT_not, thr_exit, thr_c, thr_nil, stp, stepK, movK, mv1, ex, exv, exvs, upd_some, upd_none, ini, St.val, binK, binV, ofV, pickK, unK, unV, beqK, beq_true, beq_false, if_true, if_false, List.getElem?_cons_zero, List.getElem?_cons_succ, ↓reduceIte, Nat.reduceEqDiff, reduceCtorEq, loadK, adr, deref, Ad.fv, Ad.live, fadrK, List.length_cons, List.length_nil, List.drop_zero, List.drop_succ_cons, List.take_succ_cons, List.take_zero, Nat.reduceAdd, Nat.reduceLeDiff, Nat.zero_add, Nat.add_zero, aeqK, agEq, scEq, boxVK, newVK, exc, vc_agg, vc_int, vc_bool, vc_str, vc_ptr, vc_sl, vc_fn, boxOf, adInf, List.reverse_cons, List.reverse_nil, List.nil_append, List.cons_append, extK, Bool.and_true, Bool.true_and, Bool.not_true, Bool.not_false, resT, resVs, resV, true_and, and_true, storeK, spl_nil, spl_z, spl_1, spl_2, spl_3, spl_4, spl_5, spl_6, spl_7, spl_8, scal_int, scal_bool, scal_str, scal_nil, implies_true, Bool.and_self, Post_ret, Post_normal, PostS_ret, PostS_normal, retT_true, retT_false, flat_bool, flat_int, flat_str, List.take_length, decide_true, decide_false, Option.some.injEq, Value.bool.injEq, Value.int.injEq, Bool.false_and, Bool.and_false, not_false_eq_true, not_true_eq_false, toIntK, List.length_set, Nat.reduceMul, Bool.not_eq_true, Bool.not_eq_false, List.all_cons, List.all_nil, exps, fillL, buildK, strK, nilcK, fnK, callVT, List.size_toArray, List.append_nil, List.singleton_append, boxOK, newOK, scal_nil, List.isEmpty_nil, List.isEmpty_cons, mkVK, mkOK, mkCells, zeros_0, zeros_1, zeros_2, zeros_3, zeros_4, List.map_cons, List.map_nil, t0, t1, t2, t3, t8, t10, t11, t16, t17, t18, q4, tH, w1]
    · have e := fin (by unfold livI; rw [q1, q2, q3, q4]; rfl)
      exact ⟨hil, by rw [e]; rfl, by rw [e], by simp⟩
    have hliv : livI s n fl l[i] = true := by unfold livI; rw [q1, q2, q3, q4]; rfl
    simp only [go_sem, ↓reduceIte, Nat.reduceEqDiff, reduceCtorEq, Nat.reduceAdd, Nat.reduceLeDiff, Nat.reduceMul, a12, hw, tH]
    cases hv : hvOk l <;> simp only [go_sem, ↓reduceIte, Nat.reduceEqDiff, reduceCtorEq, Nat.reduceAdd, Nat.reduceLeDiff, Nat.reduceMul, t0, t1, t2, t3, t8, t10, t11, t16, t17, t18, hv, tH, w1]
    · have e := bestI_no (s := s) (n := n) (fl := fl) hil (.inr (.inr hv))
      exact ⟨hil, by rw [e]; rfl, by rw [e], by simp⟩
    rw [liv_eq (hv_at hv hil)] at hliv
    cases q5 : (bestI l s n fl i).2 <;> simp only [go_sem, ↓reduceIte, Nat.reduceEqDiff, reduceCtorEq, Nat.reduceAdd, Nat.reduceLeDiff, Nat.reduceMul, t0, t1, t2, t3, t8, t10, t11, t16, t17, t18, q5, tH, w1]
    · have e := bestI_yes hil hv hliv (.inl q5)
      exact ⟨hil, by rw [e]; rfl, by rw [e], by simp⟩
    cases q6 : decide (l[i].2.2.1 > (bestI l s n fl i).1.2.2.1) <;> simp only [go_sem, ↓reduceIte, Nat.reduceEqDiff, reduceCtorEq, Nat.reduceAdd, Nat.reduceLeDiff, Nat.reduceMul, t0, t1, t2, t3, t8, t10, t11, t16, t17, t18, q6, tH, w1]
    · have e := bestI_no (s := s) (n := n) (fl := fl) hil (.inr (.inl ⟨q5, of_decide_eq_false q6⟩))
      exact ⟨hil, by rw [e]; rfl, by rw [e], by simp⟩
    · have e := bestI_yes hil hv hliv (.inr (of_decide_eq_true q6))
      exact ⟨hil, by rw [e]; rfl, by rw [e], by simp⟩
  · rintro t ⟨tH, t8, t10, t11⟩
    unfold eHv at t10
    simp only [go_sem, ↓reduceIte, Nat.reduceEqDiff, reduceCtorEq, Nat.reduceAdd, Nat.reduceLeDiff, Nat.reduceMul, tH, t8, t10, t11]
theorem f14 {H : Hp} {v : Value} {l : List Hv} {s n fl : Int} (hl : SlHv H v l) : Scal EE 14 [v, .int .i64 s, .int .i64 n, .int .i64 fl] H (.tuple #[vHv (bestR l s n fl).1, .bool (bestR l s n fl).2]) := by
  refine scal_ok rfl rfl k14 (by simp [c14]) rfl fun m hw => ?_
  have hroom := hl.room
  have a10 := fun {m draw t' d ts Q} => callT_at (m := m) (draw := draw) (s := t') (d := d) (ts := ts) (Q := Q) (f10 hl)
  have b0 := bestI_0 l s n fl
  unfold vHv
  simp only [go_sem, ↓reduceIte, Nat.reduceEqDiff, reduceCtorEq, Nat.reduceAdd, Nat.reduceLeDiff, Nat.reduceMul, c14, buildK, fillL, exps]
  refine go_for l.length (fun i t => t.H = H ∧ t.ρ 0 = .val v ∧ t.ρ 1 = .val (.int .i64 s) ∧ t.ρ 2 = .val (.int .i64 n) ∧ t.ρ 3 = .val (.int .i64 fl) ∧ t.ρ 8 = .bx 0 [.int .i64 0, .int .i64 0, .int .i64 0, .int .i64 0, .int .i64 0] ∧ t.ρ 10 = .bx 1 (eHv (bestI l s n fl i).1) ∧ t.ρ 11 = .val (.bool (bestI l s n fl i).2) ∧ t.ρ 12 = .val (.int .i64 i))
    (fun t => t.H = H ∧ t.ρ 8 = .bx 0 [.int .i64 0, .int .i64 0, .int .i64 0, .int .i64 0, .int .i64 0] ∧ t.ρ 10 = .bx 1 (eHv (bestR l s n fl).1) ∧ t.ρ 11 = .val (.bool (bestR l s n fl).2)) ?_ ?_ ?_
  · exact ⟨rfl, by simp [upd, ini], by simp [upd, ini], by simp [upd, ini], by simp [upd, ini], by simp [upd], by simp [upd, b0, eHv], by simp [upd, b0], by simp [upd]⟩
  · rintro i t hi ⟨tH, t0, t1, t2, t3, t8, t10, t11, t12⟩
    unfold eHv at t10
    have same : (hvOk l = false ∨ inB fl 0 255 = false) → bestR l s n fl = bestI l s n fl i := fun h => by
      cases hv : hvOk l with
      | false => rw [← bestI_len, bestI_off hv, bestI_off hv]
      | true =>
        rcases h with h | h
        · rw [hv] at h; cases h
        · have hn : ∀ z, livN s n fl z = false := fun z => by unfold livN; rw [h]; simp
          unfold bestR bestI
          rw [if_pos hv, if_pos hv, bestF_none fun z _ => hn z, bestF_none fun z _ => hn z]
    simp only [go_sem, ↓reduceIte, Nat.reduceEqDiff, reduceCtorEq, Nat.reduceAdd, Nat.reduceLeDiff, Nat.reduceMul, t0, t1, t2, t3, t8, t10, t11, t12, hl.len]
    cases q : decide ((i : Int) < (l.length : Int)) <;> simp only [go_sem, ↓reduceIte, Nat.reduceEqDiff, reduceCtorEq, Nat.reduceAdd, Nat.reduceLeDiff, Nat.reduceMul, t0, t1, t2, t3, t8, t10, t11, t12, q, a10, hw, tH]
    · have : i = l.length := by have := of_decide_eq_false q; omega
      subst this
      rw [bestI_len] at *
      exact ⟨rfl, rfl⟩
    cases hv : hvOk l <;> simp only [go_sem, ↓reduceIte, Nat.reduceEqDiff, reduceCtorEq, Nat.reduceAdd, Nat.reduceLeDiff, Nat.reduceMul, t0, t1, t2, t3, t8, t10, t11, t12, hv, c44', hw, tH]
    · rw [same (.inl hv)]
      exact ⟨rfl, rfl⟩
    cases hg : inB fl 0 255 <;> simp only [go_sem, ↓reduceIte, Nat.reduceEqDiff, reduceCtorEq, Nat.reduceAdd, Nat.reduceLeDiff, Nat.reduceMul, t0, t1, t2, t3, t8, t10, t11, t12, hg, tH]
    · rw [same (.inr hg)]
      exact ⟨rfl, rfl⟩
    have hil : i < l.length := by have := of_decide_eq_true q; omega
    have w1 := wrap64 ((i : Int) + 1) (by omega) (by omega)
    obtain ⟨g, hgg⟩ : ∃ g : Nat, fl = g := ⟨fl.toNat, by have := inB_t.1 hg; omega⟩
    have hg' := inB_t.1 hg
    obtain ⟨f, hf, hf2⟩ := hOk_flags (hv_at hv hil)
    obtain ⟨id, p, o, ho, hr, hp, hia⟩ := hl.elem (List.getElem?_eq_getElem hil)
    have hr : (o.drop p).take 5 = eHv l[i] := hr
    unfold eHv at hr
    rw [hf] at hr
    have f46' : Scal EE 46 [.int .i64 (f : Int), .int .i64 16] H (.bool (f.testBit 4)) := f46 (j := 4) (by omega) (by omega)
    have a46 := fun {m draw t' d ts Q} => callT_at (m := m) (draw := draw) (s := t') (d := d) (ts := ts) (Q := Q) f46'
    have f47' : Scal EE 47 [.int .i64 fl, .int .i64 (f : Int)] H (.bool (under g f 8)) := by rw [hgg]; exact f47 (by omega) (by omega)
    have a47 := fun {m draw t' d ts Q} => callT_at (m := m) (draw := draw) (s := t') (d := d) (ts := ts) (Q := Q) f47'
    have ln : livN s n fl l[i] = (decide (l[i].1 = s) && (inB n l[i].2.1 l[i].2.2.1 && (!(f.testBit 4) && (true && under g f 8)))) := by
      unfold livN
      rw [hf, hg, hgg]
      simp only [Int.toNat_natCast]
    have fin : livN s n fl l[i] = false → bestI l s n fl (i + 1) = bestI l s n fl i := fun h => bestI_no hil (.inl h)
    simp only [go_sem, ↓reduceIte, Nat.reduceEqDiff, reduceCtorEq, Nat.reduceAdd, Nat.reduceLeDiff, Nat.reduceMul, t0, t1, t2, t3, t8, t10, t11, t12, hia, tH, ho, hr, hp]
    cases q1 : decide (l[i].1 = s) <;> simp only [go_sem, ↓reduceIte, Nat.reduceEqDiff, reduceCtorEq, Nat.reduceAdd, Nat.reduceLeDiff, Nat.reduceMul, t0, t1, t2, t3, t8, t10, t11, t12, q1, c45', hw, tH, w1]
    · have e := fin (by rw [ln, q1]; rfl)
      exact ⟨hil, by rw [e]; rfl, by rw [e], by simp⟩
    cases q2 : inB n l[i].2.1 l[i].2.2.1 <;> simp only [go_sem, ↓reduceIte, Nat.reduceEqDiff, reduceCtorEq, Nat.reduceAdd, Nat.reduceLeDiff, Nat.reduceMul, t0, t1, t2, t3, t8, t10, t11, t12, q2, tH, w1, a46, hw]
    · have e := fin (by rw [ln, q1, q2]; rfl)
      exact ⟨hil, by rw [e]; rfl, by rw [e], by simp⟩
    cases q3 : f.testBit 4 <;> simp only [go_sem, ↓reduceIte, Nat.reduceEqDiff, reduceCtorEq, Nat.reduceAdd, Nat.reduceLeDiff, Nat.reduceMul, t0, t1, t2, t3, t8, t10, t11, t12, q3, tH, w1, a47, hw]
    rotate_left
    · have e := fin (by rw [ln, q1, q2, q3]; rfl)
      exact ⟨hil, by rw [e]; rfl, by rw [e], by simp⟩
    cases q4 : under g f 8 <;> simp only [go_sem, ↓reduceIte, Nat.reduceEqDiff, reduceCtorEq, Nat.reduceAdd, Nat.reduceLeDiff, Nat.reduceMul, t0, t1, t2, t3, t8, t10, t11, t12, q4, tH, w1]
    · have e := fin (by rw [ln, q1, q2, q3, q4]; rfl)
      exact ⟨hil, by rw [e]; rfl, by rw [e], by simp⟩
    have hliv : livN s n fl l[i] = true := by rw [ln, q1, q2, q3, q4]; rfl
    cases q5 : (bestI l s n fl i).2 <;> simp only [go_sem, ↓reduceIte, Nat.reduceEqDiff, reduceCtorEq, Nat.reduceAdd, Nat.reduceLeDiff, Nat.reduceMul, t0, t1, t2, t3, t8, t10, t11, t12, q5, tH, w1]
    · have e := bestI_yes hil hv hliv (.inl q5)
      exact ⟨hil, by rw [e]; unfold eHv; rw [hf], by rw [e], by simp⟩
    cases q6 : decide (l[i].2.2.1 > (bestI l s n fl i).1.2.2.1) <;> simp only [go_sem, ↓reduceIte, Nat.reduceEqDiff, reduceCtorEq, Nat.reduceAdd, Nat.reduceLeDiff, Nat.reduceMul, t0, t1, t2, t3, t8, t10, t11, t12, q6, tH, w1]
    · have e := bestI_no (s := s) (n := n) (fl := fl) hil (.inr (.inl ⟨q5, of_decide_eq_false q6⟩))
      exact ⟨hil, by rw [e]; rfl, by rw [e], by simp⟩
    · have e := bestI_yes hil hv hliv (.inr (of_decide_eq_true q6))
      exact ⟨hil, by rw [e]; unfold eHv; rw [hf], by rw [e], by simp⟩
  · rintro t ⟨tH, t8, t10, t11⟩
    unfold eHv at t10
    simp only [go_sem, ↓reduceIte, Nat.reduceEqDiff, reduceCtorEq, Nat.reduceAdd, Nat.reduceLeDiff, Nat.reduceMul, tH, t8, t10, t11]
end Go.Proofs.Ytceilcdhflcbpaa.Ev

/- Haves put away, and those that are over. -/
namespace Go.Proofs.Ytceilcdhflcbpaa.Ev
set_option linter.all false
open Go
set_option maxRecDepth 4000

theorem Sl.oneHv {m : Md} {N : Nat} {H : Hp} {v : Value} {l : List Hv} (z : Hv) (h : SlHv H v l) (ho : OwnS N v) (hN : N ≤ H.length) (hw : ∀ id, N ≤ id → m.wr id = true) (hb : l.length < 1048576) :
    ∃ v' H', (∀ (s : St) (x y : X), s.H = H → exv s.ρ x = some v → ex s.ρ y = .vs 1 (eHv z) → appK m s 5 40 x y = some (.val v', { s with H := H' })) ∧ SlHv H' v' (l ++ [z]) ∧ OwnS N v' ∧
      (∀ j, j < H.length → j ∉ idsOf v → H'[j]? = H[j]?) ∧ H.length ≤ H'.length ∧ (∀ j ∈ idsOf v', j ∈ idsOf v ∨ H.length ≤ j) ∧ ∀ H0 : Hp, H0.length ≤ N → H0 <+: H → H0 <+: H' := by
  obtain ⟨v', H', h1, h2⟩ := h.app (m := m) (n := 1) (bytes := 40) (l2 := [z]) (cs := eHv z) ho hN hw (fun _ => rfl) (by simp) rfl (fun i b hi => by
    cases i with
    | zero => simp at hi; subst hi; rfl
    | succ i => simp at hi) (by unfold Ev.room; simp; omega) (by unfold Ev.room; simp; omega)
  exact ⟨v', H', fun s x y hH hx hy => h1 s x y hH hx (by rw [hy]; rfl), h2⟩
theorem own_newH {H : Hp} : SlHv (H ++ [[]]) (.slice (some ⟨H.length, 0, some 5⟩) 0 (0 * 5)) [] := .inr ⟨H.length, 0, 0, [], rfl, by simp, by simp, by simp, by simp, fun i a hi => by simp at hi⟩
theorem filt_succ {p : Hv → Bool} {l : List Hv} {i : Nat} (h : i < l.length) : (l.take (i + 1)).filter p = if p l[i] = true then (l.take i).filter p ++ [l[i]] else (l.take i).filter p := by
  rw [List.take_succ_eq_append_getElem h, List.filter_append]
  cases hp : p l[i] <;> simp [hp]
theorem filt_len {p : Hv → Bool} {l : List Hv} {i : Nat} : ((l.take i).filter p).length ≤ l.length := by
  have := List.length_filter_le p (l.take i)
  have : (l.take i).length ≤ l.length := by rw [List.length_take]; omega
  omega
noncomputable def purgeR (l : List Hv) (k : Int) : List Hv := if hvOk l = true then l.filter (fun z => decide (z.2.2.1 ≥ k)) else []
theorem f18 {m : Md} {H : Hp} {v : Value} {l : List Hv} {k : Int} (hl : SlHv H v l) (hw : Wr m H) : Fun EE m 18 [v, .int .i64 k] H fun r H' => FreshS eHv 5 H r H' (purgeR l k) := by
  refine fun_f rfl rfl k18 (by simp [c18]) ?_
  have p0 : H <+: H ++ [[]] := List.prefix_append _ _
  have s0 : SlHv (H ++ [[]]) (.slice (some ⟨H.length, 0, some 5⟩) 0 (0 * 5)) [] := own_newH
  have o0 : OwnS H.length (.slice (some ⟨H.length, 0, some 5⟩) 0 (0 * 5)) := .inr ⟨_, _, _, _, rfl, Nat.le_refl _⟩
  generalize hwv : Value.slice (some ⟨H.length, 0, some 5⟩) 0 (0 * 5) = wv0 at s0 o0
  have hl0 := hl.pre p0
  have a12 := fun {m draw t d ts Q} => callT_at (m := m) (draw := draw) (s := t) (d := d) (ts := ts) (Q := Q) (f12 hl0)
  unfold purgeR
  simp only [go_sem, ↓reduceIte, Nat.reduceEqDiff, reduceCtorEq, Nat.reduceAdd, Nat.reduceLeDiff, Nat.reduceMul, c18, fillL, hwv, a12, hw.pre p0]
  cases hv : hvOk l <;> simp only [go_sem, ↓reduceIte, Nat.reduceEqDiff, reduceCtorEq, Nat.reduceAdd, Nat.reduceLeDiff, Nat.reduceMul, hv, hl0.len]
  · exact ⟨p0, s0, o0⟩
  have h12 := (hv_t.1 hv).1
  refine go_for l.length (fun i s => H <+: s.H ∧ s.ρ 1 = .val (.int .i64 k) ∧ s.ρ 13 = .val v ∧ s.ρ 14 = .val (.int .i64 l.length) ∧ s.ρ 15 = .val (.int .i64 i) ∧ ∃ wv, s.ρ 5 = .val wv ∧ SlHv s.H wv ((l.take i).filter (fun z => decide (z.2.2.1 ≥ k))) ∧ OwnS H.length wv)
    (fun s => H <+: s.H ∧ ∃ wv, s.ρ 5 = .val wv ∧ SlHv s.H wv (l.filter (fun z => decide (z.2.2.1 ≥ k))) ∧ OwnS H.length wv) ?_ ?_ ?_
  · exact ⟨p0, by simp [upd, ini], by simp [upd], by simp [upd], by simp [upd], wv0, by simp [upd], s0, o0⟩
  · rintro i s hi ⟨kH, k1, k13, k14, k15, wv, k5, ks, ko⟩
    have kv := hl.pre kH
    simp only [go_sem, ↓reduceIte, Nat.reduceEqDiff, reduceCtorEq, Nat.reduceAdd, Nat.reduceLeDiff, Nat.reduceMul, k1, k5, k13, k14, k15]
    cases q1 : decide ((i : Int) < (l.length : Int)) <;> simp only [go_sem, ↓reduceIte, Nat.reduceEqDiff, reduceCtorEq, Nat.reduceAdd, Nat.reduceLeDiff, Nat.reduceMul, k1, k5, k13, k14, k15, q1]
    · have : i = l.length := by have := of_decide_eq_false q1; omega
      subst this
      rw [List.take_length] at ks
      exact ⟨kH, wv, rfl, ks, ko⟩
    have hil : i < l.length := by have := of_decide_eq_true q1; omega
    have w1 := wrap64 ((i : Int) + 1) (by omega) (by omega)
    obtain ⟨id, p, o, ho, hr, hp, hia⟩ := kv.elem (List.getElem?_eq_getElem hil)
    have hr : (o.drop p).take 5 = eHv l[i] := hr
    unfold eHv at hr
    have hf := filt_succ (p := fun z => decide (z.2.2.1 ≥ k)) hil
    have hlen := filt_len (p := fun z => decide (z.2.2.1 ≥ k)) (l := l) (i := i)
    simp only [go_sem, ↓reduceIte, Nat.reduceEqDiff, reduceCtorEq, Nat.reduceAdd, Nat.reduceLeDiff, Nat.reduceMul, k1, k5, k13, k14, k15, hia, ho, hr, hp]
    cases q2 : decide (l[i].2.2.1 ≥ k) <;> simp only [go_sem, ↓reduceIte, Nat.reduceEqDiff, reduceCtorEq, Nat.reduceAdd, Nat.reduceLeDiff, Nat.reduceMul, k1, k5, k13, k14, k15, q2, w1]
    · rw [if_neg (by rw [q2]; decide)] at hf
      exact ⟨hil, kH, by simp, wv, rfl, by rw [hf]; exact ks, ko⟩
    · rw [if_pos q2] at hf
      obtain ⟨v5, H5, e1, e2, e3, e4, e5, e6, e7⟩ := ks.oneHv (m := m) l[i] ko kH.length_le hw (by omega)
      unfold eHv at e1
      rw [e1]
      rotate_left
      · rfl
      · rfl
      · rfl
      simp only [go_sem, ↓reduceIte, Nat.reduceEqDiff, reduceCtorEq, Nat.reduceAdd, Nat.reduceLeDiff, Nat.reduceMul, k1, k5, k13, k14, k15, w1]
      exact ⟨hil, e7 H (Nat.le_refl _) kH, by simp, v5, rfl, by rw [hf]; exact e2, e3⟩
  · rintro s ⟨kH, wv, k5, ks, ko⟩
    simp only [go_sem, ↓reduceIte, Nat.reduceEqDiff, reduceCtorEq, Nat.reduceAdd, Nat.reduceLeDiff, Nat.reduceMul, k5]
    exact ⟨kH, ks, ko⟩

abbrev anotI (a b : Int) : Int := IntKind.i64.wrap ((BitVec.ofInt IntKind.i64.bits a &&& ~~~ BitVec.ofInt IntKind.i64.bits b).toNat : Int)
theorem anot_iff {n m : Nat} (hn : n < 256) : anotI (andI (n : Int) 15) (m : Int) = 0 ↔ under n m 4 = true := by
  rw [show ((15 : Int)) = ((15 : Nat) : Int) from rfl, and_nat (by omega) (by omega)]
  have hx : n &&& 15 ≤ 15 := Nat.and_le_right
  have hy : (BitVec.ofInt 64 ((n &&& 15 : Nat) : Int) &&& ~~~ BitVec.ofInt 64 (m : Int)).toNat ≤ 15 := by
    rw [BitVec.toNat_and, ofInt_nat _ (by omega)]
    exact Nat.le_trans Nat.and_le_left hx
  have e : anotI ((n &&& 15 : Nat) : Int) (m : Int) = (((BitVec.ofInt 64 ((n &&& 15 : Nat) : Int) &&& ~~~ BitVec.ofInt 64 (m : Int)).toNat : Nat) : Int) := by
    show IntKind.i64.wrap ((BitVec.ofInt 64 ((n &&& 15 : Nat) : Int) &&& ~~~ BitVec.ofInt 64 (m : Int)).toNat : Int) = _
    rw [wrap64 _ (by omega) (by omega)]
  have f15 : ∀ j, (15 : Nat).testBit j = decide (j < 4) := fun j => by
    rw [show (15 : Nat) = 2 ^ 4 - 1 from rfl, Nat.testBit_two_pow_sub_one]
  rw [e, under_t]
  have z : ((((BitVec.ofInt 64 ((n &&& 15 : Nat) : Int) &&& ~~~ BitVec.ofInt 64 (m : Int)).toNat : Nat) : Int) = 0) ↔ (BitVec.ofInt 64 ((n &&& 15 : Nat) : Int) &&& ~~~ BitVec.ofInt 64 (m : Int)) = 0#64 := by
    rw [← BitVec.toNat_inj]
    simp
  rw [z]
  constructor
  · intro h j hj hb
    have := congrArg (fun b => b.getLsbD j) h
    simp only [BitVec.ofInt_natCast, BitVec.getLsbD_and, BitVec.getLsbD_not, BitVec.getLsbD_ofNat, Nat.testBit_and, f15, BitVec.getLsbD_zero, show j < 64 by omega, hj, decide_true, Bool.true_and, Bool.and_true, hb] at this
    simpa using this
  · intro h
    refine BitVec.eq_of_getLsbD_eq (fun j hj => ?_)
    simp only [BitVec.ofInt_natCast, BitVec.getLsbD_and, BitVec.getLsbD_not, BitVec.getLsbD_ofNat, Nat.testBit_and, f15, BitVec.getLsbD_zero, hj, decide_true, Bool.true_and]
    by_cases hj4 : j < 4
    · cases h1 : n.testBit j with
      | false => simp
      | true => rw [h j hj4 h1]; simp
    · simp [hj4]
def keepI (h x : Hv) : Bool := !decide (x.1 = h.1) || (decide (x.2.2.1 > h.2.2.1) || !decide (anotI (andI x.2.2.2.1 15) h.2.2.2.1 = 0))
def keepN (h x : Hv) : Bool := !(decide (x.1 = h.1) && (decide (x.2.2.1 ≤ h.2.2.1) && under x.2.2.2.1.toNat h.2.2.2.1.toNat 4))
theorem keep_eq {h x : Hv} (hh : hOk h = true) (hx : hOk x = true) : keepI h x = keepN h x := by
  obtain ⟨f, e, hf⟩ := hOk_flags hx
  obtain ⟨g, e2, hg⟩ := hOk_flags hh
  unfold keepI keepN
  rw [e, e2, Int.toNat_natCast, Int.toNat_natCast]
  have h1 : decide (anotI (andI (f : Int) 15) (g : Int) = 0) = under f g 4 := by
    rw [Bool.eq_iff_iff, decide_eq_true_eq, anot_iff hf]
  rw [h1]
  by_cases a : x.1 = h.1 <;> by_cases b : x.2.2.1 > h.2.2.1 <;> cases c : under f g 4 <;> simp [a, b] <;> omega
theorem hv_last {F : List Hv} {h : Hv} (hh : hOk h = false) : hvOk (F ++ [h]) = false := hv_no fun h2 => by
  have := (h2.2 F.length (by simp)).1
  rw [List.getElem_append_right (Nat.le_refl _)] at this
  simp only [Nat.sub_self, List.getElem_cons_zero] at this
  rw [hh] at this
  cases this
noncomputable def putW (keep : Hv → Bool) (l : List Hv) (h : Hv) : List Hv × Bool := if hvOk l = true then (if hvOk (l.filter keep ++ [h]) = true then (l.filter keep ++ [h], true) else (l, false)) else ([], false)
noncomputable def putR (l : List Hv) (h : Hv) : List Hv × Bool := putW (keepN h) l h
theorem putW_eq {keep : Hv → Bool} {l : List Hv} {h : Hv} (hk : hOk h = true → ∀ x ∈ l, hOk x = true → keep x = keepN h x) : putW keep l h = putR l h := by
  unfold putR putW
  cases hv : hvOk l with
  | false => rfl
  | true =>
    rw [if_pos rfl, if_pos rfl]
    cases hh : hOk h with
    | false =>
      rw [if_neg (by rw [hv_last hh]; decide), if_neg (by rw [hv_last hh]; decide)]
    | true =>
      have : l.filter keep = l.filter (keepN h) := List.filter_congr fun x hx => hk hh x hx (by
        obtain ⟨i, hi, rfl⟩ := List.mem_iff_getElem.1 hx
        exact hv_at hv hi)
      rw [this]
def PutR (H : Hp) (l : List Hv) (h : Hv) (r : Value) (H' : Hp) : Prop := ∃ u, r = .tuple #[u, .bool (putR l h).2] ∧ FreshS eHv 5 H u H' (putR l h).1
theorem f23 {m : Md} {H : Hp} {v : Value} {l : List Hv} {h : Hv} (hl : SlHv H v l) (hw : Wr m H) : Fun EE m 23 [v, vHv h] H fun r H' => PutR H l h r H' := by
  refine fun_f rfl rfl k23 (by simp [c23]) ?_
  have a12 := fun {m draw t d ts Q} => callT_at (m := m) (draw := draw) (s := t) (d := d) (ts := ts) (Q := Q) (f12 hl)
  have e0 : putR l h = putW (keepI h) l h := (putW_eq fun hh x hx hox => keep_eq hh hox).symm
  unfold PutR
  rw [e0]
  unfold putW vHv
  simp only [go_sem, ↓reduceIte, Nat.reduceEqDiff, reduceCtorEq, Nat.reduceAdd, Nat.reduceLeDiff, Nat.reduceMul, c23, a12, hw]
  cases hv : hvOk l <;> simp only [go_sem, ↓reduceIte, Nat.reduceEqDiff, reduceCtorEq, Nat.reduceAdd, Nat.reduceLeDiff, Nat.reduceMul, hv]
  · exact ⟨.slice none 0 0, rfl, List.prefix_refl _, .inl ⟨rfl, rfl⟩, .inl rfl⟩
  have h12 := (hv_t.1 hv).1
  have p0 : H <+: H ++ [[]] := List.prefix_append _ _
  have s0 : SlHv (H ++ [[]]) (.slice (some ⟨H.length, 0, some 5⟩) 0 (0 * 5)) [] := own_newH
  have o0 : OwnS H.length (.slice (some ⟨H.length, 0, some 5⟩) 0 (0 * 5)) := .inr ⟨_, _, _, _, rfl, Nat.le_refl _⟩
  generalize hwv : Value.slice (some ⟨H.length, 0, some 5⟩) 0 (0 * 5) = wv0 at s0 o0
  have hl0 := hl.pre p0
  (try simp only [go_sem, ↓reduceIte, Nat.reduceEqDiff, reduceCtorEq, Nat.reduceAdd, Nat.reduceLeDiff, Nat.reduceMul, fillL, hwv])
  simp only [go_sem, ↓reduceIte, Nat.reduceEqDiff, reduceCtorEq, Nat.reduceAdd, Nat.reduceLeDiff, Nat.reduceMul, hl0.len]
  refine go_for l.length (fun i s => H <+: s.H ∧ s.ρ 0 = .val v ∧ s.ρ 3 = .bx 0 (eHv h) ∧ s.ρ 13 = .val v ∧ s.ρ 14 = .val (.int .i64 l.length) ∧ s.ρ 15 = .val (.int .i64 i) ∧ ∃ wv, s.ρ 6 = .val wv ∧ SlHv s.H wv ((l.take i).filter (keepI h)) ∧ OwnS H.length wv)
    (fun s => H <+: s.H ∧ s.ρ 0 = .val v ∧ s.ρ 3 = .bx 0 (eHv h) ∧ ∃ wv, s.ρ 6 = .val wv ∧ SlHv s.H wv (l.filter (keepI h)) ∧ OwnS H.length wv) ?_ ?_ ?_
  · exact ⟨p0, by simp [upd, ini], by simp [upd, eHv], by simp [upd], by simp [upd], by simp [upd], wv0, by simp [upd], s0, o0⟩
  · rintro i s hi ⟨kH, k0, k3, k13, k14, k15, wv, k6, ks, ko⟩
    have kv := hl.pre kH
    unfold eHv at k3
    simp only [go_sem, ↓reduceIte, Nat.reduceEqDiff, reduceCtorEq, Nat.reduceAdd, Nat.reduceLeDiff, Nat.reduceMul, k0, k3, k6, k13, k14, k15]
    cases q1 : decide ((i : Int) < (l.length : Int)) <;> simp only [go_sem, ↓reduceIte, Nat.reduceEqDiff, reduceCtorEq, Nat.reduceAdd, Nat.reduceLeDiff, Nat.reduceMul, k0, k3, k6, k13, k14, k15, q1]
    · have : i = l.length := by have := of_decide_eq_false q1; omega
      subst this
      rw [List.take_length] at ks
      exact ⟨kH, rfl, wv, rfl, ks, ko⟩
    have hil : i < l.length := by have := of_decide_eq_true q1; omega
    have w1 := wrap64 ((i : Int) + 1) (by omega) (by omega)
    obtain ⟨id, p, o, ho, hr, hp, hia⟩ := kv.elem (List.getElem?_eq_getElem hil)
    have hr : (o.drop p).take 5 = eHv l[i] := hr
    unfold eHv at hr
    have hf := filt_succ (p := keepI h) hil
    have hlen := filt_len (p := keepI h) (l := l) (i := i)
    obtain ⟨v5, H5, e1, e2, e3, e4, e5, e6, e7⟩ := ks.oneHv (m := m) l[i] ko kH.length_le hw (by omega)
    unfold eHv at e1
    have yes : keepI h l[i] = true → SlHv H5 v5 ((l.take (i + 1)).filter (keepI h)) := fun hk => by
      rw [if_pos hk] at hf
      rw [hf]
      exact e2
    have p5 := e7 H (Nat.le_refl _) kH
    simp only [go_sem, ↓reduceIte, Nat.reduceEqDiff, reduceCtorEq, Nat.reduceAdd, Nat.reduceLeDiff, Nat.reduceMul, k0, k3, k6, k13, k14, k15, hia, ho, hr, hp]
    cases q2 : decide (l[i].1 = h.1) <;> simp only [go_nil, go_blk, go_skip, go_ret, go_exit, go_seq, go_block, go_reg, go_r0, go_r, go_d0, go_d, go_e0, go_e, box2, Option.isSome_some, Nat.le_refl, go_cond, go_o, go_g, aft_some, cnd_bool, grd_bool, grd_tup, brT_true, brT_false, brT_not, thr_exit, thr_c, thr_nil, stp, stepK, movK, mv1, ex, exv, exvs, upd_some, upd_none, ini, St.val, binK, binV, ofV, pickK, unK, unV, beqK, beq_true, beq_false, if_true, if_false, List.getElem?_cons_zero, List.getElem?_cons_succ, ↓reduceIte, Nat.reduceEqDiff, reduceCtorEq, loadK, adr, deref, Ad.fv, Ad.live, fadrK, List.length_cons, List.length_nil, List.drop_zero, List.drop_succ_cons, List.take_succ_cons, List.take_zero, Nat.reduceAdd, Nat.reduceLeDiff, Nat.zero_add, Nat.add_zero, aeqK, agEq, scEq, boxVK, newVK, exc, vc_agg, vc_int, vc_bool, vc_str, vc_ptr, vc_sl, vc_fn, boxOf, adInf, List.reverse_cons, List.reverse_nil, List.nil_append, List.cons_append, extK, Bool.and_true, Bool.true_and, Bool.not_true, Bool.not_false, resT, resVs, resV, true_and, and_true, storeK, spl_nil, spl_z, spl_1, spl_2, spl_3, spl_4, spl_5, spl_6, spl_7, spl_8, scal_int, scal_bool, scal_str, scal_nil, implies_true, Bool.and_self, Post_ret, Post_normal, PostS_ret, PostS_normal, retT_true, retT_false, flat_bool, flat_int, flat_str, List.take_length, decide_true, decide_false, Option.some.injEq, Value.bool.injEq, Value.int.injEq, Bool.false_and, Bool.and_false, not_false_eq_true, not_true_eq_false, toIntK, List.length_set, Nat.reduceMul, Bool.not_eq_true, Bool.not_eq_false, List.all_cons, List.all_nil, exps, fillL, buildK, strK, nilcK, fnK, callVT, List.size_toArray, List.append_nil, List.singleton_append, boxOK, newOK, scal_nil, List.isEmpty_nil, List.isEmpty_cons, mkVK, mkOK, mkCells, zeros_0, zeros_1, zeros_2, zeros_3, zeros_4, List.map_cons, List.map_nil, k0, k3, k6, k13, k14, k15, q2]
    · rw [e1]
      rotate_left
      · rfl
      · rfl
      · rfl
      simp only [go_sem, ↓reduceIte, Nat.reduceEqDiff, reduceCtorEq, Nat.reduceAdd, Nat.reduceLeDiff, Nat.reduceMul, k0, k3, k6, k13, k14, k15, w1]
      exact ⟨hil, p5, rfl, by simp, v5, rfl, yes (by unfold keepI; rw [q2]; rfl), e3⟩
    cases q3 : decide (l[i].2.2.1 > h.2.2.1) <;> simp only [go_nil, go_blk, go_skip, go_ret, go_exit, go_seq, go_block, go_reg, go_r0, go_r, go_d0, go_d, go_e0, go_e, box2, Option.isSome_some, Nat.le_refl, go_cond, go_o, go_g, aft_some, cnd_bool, grd_bool, grd_tup, brT_true, brT_false, brT_not, thr_exit, thr_c, thr_nil, stp, stepK, movK, mv1, ex, exv, exvs, upd_some, upd_none, ini, St.val, binK, binV, ofV, pickK, unK, unV, beqK, beq_true, beq_false, if_true, if_false, List.getElem?_cons_zero, List.getElem?_cons_succ, ↓reduceIte, Nat.reduceEqDiff, reduceCtorEq, loadK, adr, deref, Ad.fv, Ad.live, fadrK, List.length_cons, List.length_nil, List.drop_zero, List.drop_succ_cons, List.take_succ_cons, List.take_zero, Nat.reduceAdd, Nat.reduceLeDiff, Nat.zero_add, Nat.add_zero, aeqK, agEq, scEq, boxVK, newVK, exc, vc_agg, vc_int, vc_bool, vc_str, vc_ptr, vc_sl, vc_fn, boxOf, adInf, List.reverse_cons, List.reverse_nil, List.nil_append, List.cons_append, extK, Bool.and_true, Bool.true_and, Bool.not_true, Bool.not_false, resT, resVs, resV, true_and, and_true, storeK, spl_nil, spl_z, spl_1, spl_2, spl_3, spl_4, spl_5, spl_6, spl_7, spl_8, scal_int, scal_bool, scal_str, scal_nil, implies_true, Bool.and_self, Post_ret, Post_normal, PostS_ret, PostS_normal, retT_true, retT_false, flat_bool, flat_int, flat_str, List.take_length, decide_true, decide_false, Option.some.injEq, Value.bool.injEq, Value.int.injEq, Bool.false_and, Bool.and_false, not_false_eq_true, not_true_eq_false, toIntK, List.length_set, Nat.reduceMul, Bool.not_eq_true, Bool.not_eq_false, List.all_cons, List.all_nil, exps, fillL, buildK, strK, nilcK, fnK, callVT, List.size_toArray, List.append_nil, List.singleton_append, boxOK, newOK, scal_nil, List.isEmpty_nil, List.isEmpty_cons, mkVK, mkOK, mkCells, zeros_0, zeros_1, zeros_2, zeros_3, zeros_4, List.map_cons, List.map_nil, k0, k3, k6, k13, k14, k15, q3]
    · cases q4 : decide (anotI (andI l[i].2.2.2.1 15) h.2.2.2.1 = 0) <;> simp only [go_nil, go_blk, go_skip, go_ret, go_exit, go_seq, go_block, go_reg, go_r0, go_r, go_d0, go_d, go_e0, go_e, box2, Option.isSome_some, Nat.le_refl, go_cond, go_o, go_g, aft_some, cnd_bool, grd_bool, grd_tup, brT_true, brT_false, brT_not, thr_exit, thr_c, thr_nil, stp, stepK, movK, mv1, ex, exv, exvs, upd_some, upd_none, ini, St.val, binK, binV, ofV, pickK, unK, unV, beqK, beq_true, beq_false, if_true, if_false, List.getElem?_cons_zero, List.getElem?_cons_succ, ↓reduceIte, Nat.reduceEqDiff, reduceCtorEq, loadK, adr, deref, Ad.fv, Ad.live, fadrK, List.length_cons, List.length_nil, List.drop_zero, List.drop_succ_cons, List.take_succ_cons, List.take_zero, Nat.reduceAdd, Nat.reduceLeDiff, Nat.zero_add, Nat.add_zero, aeqK, agEq, scEq, boxVK, newVK, exc, vc_agg, vc_int, vc_bool, vc_str, vc_ptr, vc_sl, vc_fn, boxOf, adInf, List.reverse_cons, List.reverse_nil, List.nil_append, List.cons_append, extK, Bool.and_true, Bool.true_and, Bool.not_true, Bool.not_false, resT, resVs, resV, true_and, and_true, storeK, spl_nil, spl_z, spl_1, spl_2, spl_3, spl_4, spl_5, spl_6, spl_7, spl_8, scal_int, scal_bool, scal_str, scal_nil, implies_true, Bool.and_self, Post_ret, Post_normal, PostS_ret, PostS_normal, retT_true, retT_false, flat_bool, flat_int, flat_str, List.take_length, decide_true, decide_false, Option.some.injEq, Value.bool.injEq, Value.int.injEq, Bool.false_and, Bool.and_false, not_false_eq_true, not_true_eq_false, toIntK, List.length_set, Nat.reduceMul, Bool.not_eq_true, Bool.not_eq_false, List.all_cons, List.all_nil, exps, fillL, buildK, strK, nilcK, fnK, callVT, List.size_toArray, List.append_nil, List.singleton_append, boxOK, newOK, scal_nil, List.isEmpty_nil, List.isEmpty_cons, mkVK, mkOK, mkCells, zeros_0, zeros_1, zeros_2, zeros_3, zeros_4, List.map_cons, List.map_nil, k0, k3, k6, k13, k14, k15, q4, w1]
      · rw [e1]
        rotate_left
        · rfl
        · rfl
        · rfl
        simp only [go_sem, ↓reduceIte, Nat.reduceEqDiff, reduceCtorEq, Nat.reduceAdd, Nat.reduceLeDiff, Nat.reduceMul, k0, k3, k6, k13, k14, k15, w1]
        exact ⟨hil, p5, rfl, by simp, v5, rfl, yes (by unfold keepI; rw [q2, q3, q4]; rfl), e3⟩
      · rw [if_neg (by unfold keepI; rw [q2, q3, q4]; decide)] at hf
        exact ⟨hil, kH, rfl, by simp, wv, rfl, by rw [hf]; exact ks, ko⟩
    · rw [e1]
      rotate_left
      · rfl
      · rfl
      · rfl
      simp only [go_sem, ↓reduceIte, Nat.reduceEqDiff, reduceCtorEq, Nat.reduceAdd, Nat.reduceLeDiff, Nat.reduceMul, k0, k3, k6, k13, k14, k15, w1]
      exact ⟨hil, p5, rfl, by simp, v5, rfl, yes (by unfold keepI; rw [q2, q3]; rfl), e3⟩
  · rintro s ⟨kH, k0, k3, wv, k6, ks, ko⟩
    have hlen := List.length_filter_le (keepI h) l
    obtain ⟨v5, H5, e1, e2, e3, e4, e5, e6, e7⟩ := ks.oneHv (m := m) h ko kH.length_le hw (by omega)
    have p5 := e7 H (Nat.le_refl _) kH
    have b12 := fun {m draw t d ts Q} => callT_at (m := m) (draw := draw) (s := t) (d := d) (ts := ts) (Q := Q) (f12 e2)
    unfold eHv at k3 e1
    simp only [go_sem, ↓reduceIte, Nat.reduceEqDiff, reduceCtorEq, Nat.reduceAdd, Nat.reduceLeDiff, Nat.reduceMul, k0, k3, k6]
    rw [e1]
    rotate_left
    · rfl
    · rfl
    · rfl
    simp only [go_sem, ↓reduceIte, Nat.reduceEqDiff, reduceCtorEq, Nat.reduceAdd, Nat.reduceLeDiff, Nat.reduceMul, k0, k3, k6, b12, hw.pre p5]
    cases hv2 : hvOk (l.filter (keepI h) ++ [h]) <;> simp only [go_sem, ↓reduceIte, Nat.reduceEqDiff, reduceCtorEq, Nat.reduceAdd, Nat.reduceLeDiff, Nat.reduceMul, k0, k3, k6, hv2]
    · obtain ⟨v6, H6, g1, g2, g3, g4⟩ := (hl.pre p5).copy (m := m) (bytes := 40) (by unfold Ev.room; omega) (by unfold Ev.room; omega)
      rw [g1]
      rotate_left
      · rfl
      · rfl
      · rfl
      (try simp only [go_sem, ↓reduceIte, Nat.reduceEqDiff, reduceCtorEq, Nat.reduceAdd, Nat.reduceLeDiff, Nat.reduceMul, g3.vc])
      exact ⟨v6, rfl, p5.trans g2, g3, g4.mono p5.length_le⟩
    · (try simp only [go_sem, ↓reduceIte, Nat.reduceEqDiff, reduceCtorEq, Nat.reduceAdd, Nat.reduceLeDiff, Nat.reduceMul, e2.vc])
      exact ⟨v5, rfl, p5, e2, e3⟩
end Go.Proofs.Ytceilcdhflcbpaa.Ev

/- Draws: the cursor, numbers, choices and texts drawn by it. -/
namespace Go.Proofs.Ytceilcdhflcbpaa.Ev
set_option linter.all false
open Go
set_option maxRecDepth 4000

theorem fun_t {E : Env} {m : Md} {f : Nat} {cf : CF} {vs : List Value} {H : Hp} {Q : Value → Hp → Prop} (ht : E.tr f = true) (hp : E.prim f = none) (hf : E.fns f = some cf) (hl : vs.length ≤ cf.nt)
    (h : ∀ m' : Md, (∀ id, m'.wr id = m.wr id) → go E m' [.c cf.body] { ρ := ini vs, gn := 0, H := H } (Post cf.res true H Q)) : Fun E m f vs H Q :=
  fun_ok ht hp hf hl (h _ fun _ => rfl)
theorem callD {E : Env} {m : Md} {f : Nat} {vs : List Value} {H : Hp} {P : Value → Hp → Prop} {s : St} {d : Option Nat} {ts : List Tk} {Q : Ex → St → Prop} (h : Fun E m f vs H P) (hH : s.H = H)
    (hq : ∀ r H', P r H' → go E m ts { s with H := H', ρ := upd s.ρ d (.val r) } Q) : callT E m false f (some vs) s d ts Q := by
  subst hH
  unfold callT opt
  exact h.mono hq

def eU (n : Int) : List Value := [.int .u8 n]
abbrev SlU (H : Hp) (v : Value) (l : List Int) : Prop := Sl (En eU) 1 H v l
theorem Sl.byte {H : Hp} {v : Value} {l : List Int} (h : SlU H v l) {i : Nat} {a : Int} (hi : l[i]? = some a) : ∃ id p o, H[id]? = some o ∧ o[p]? = some (.int .u8 a) ∧
    ∀ (s : St) (x y : X), exv s.ρ x = some v → exv s.ρ y = some (.int .i64 i) → iadrK s 1 x y = some (.val (.pointer (some ⟨id, p, some o.length⟩)), s) := by
  obtain ⟨id, p, o, ho, hr, hp, hia⟩ := h.elem hi
  unfold En at hr
  exact ⟨id, p, o, ho, by simpa [eU] using getElem?_of_take hr (j := 0) (by omega), hia⟩

/-- A cursor over a draw's bytes. -/
def Cur (H : Hp) (c : Value) (id : Nat) : Prop := c = .pointer (some ⟨id, 0, some 3⟩) ∧ ∃ b i h bl, H[id]? = some [b, .int .i64 i, .int .i64 h] ∧ SlU H b bl ∧ 0 ≤ i ∧ ∀ j ∈ idsOf b, j < id
/-- The cursor has gone on; no more has been done. -/
def CS (H H' : Hp) (c : Value) (id : Nat) : Prop := Cur H' c id ∧ (∀ j, j ≠ id → H'[j]? = H[j]?) ∧ H'.length = H.length
/-- The cursor has gone on; new rows have come. -/
def CX (H H' : Hp) (c : Value) (id : Nat) : Prop := Cur H' c id ∧ (∀ j, j < H.length → j ≠ id → H'[j]? = H[j]?) ∧ H.length ≤ H'.length

theorem CS.trans {H H' H'' : Hp} {c : Value} {id : Nat} (h : CS H H' c id) (k : CS H' H'' c id) : CS H H'' c id := ⟨k.1, fun j hj => (k.2.1 j hj).trans (h.2.1 j hj), k.2.2.trans h.2.2⟩
theorem CS.cx {H H' : Hp} {c : Value} {id : Nat} (h : CS H H' c id) : CX H H' c id := ⟨h.1, fun j _ hj => h.2.1 j hj, by have := h.2.2; omega⟩
theorem CX.trans {H H' H'' : Hp} {c : Value} {id : Nat} (h : CX H H' c id) (k : CX H' H'' c id) : CX H H'' c id := ⟨k.1, fun j hl hj => (k.2.1 j (by have := h.2.2; omega) hj).trans (h.2.1 j hl hj), Nat.le_trans h.2.2 k.2.2⟩
theorem CX.refl {H : Hp} {c : Value} {id : Nat} (h : Cur H c id) : CX H H c id := ⟨h, fun _ _ _ => rfl, Nat.le_refl _⟩
theorem Sl.cs {α : Type} {R : α → List Value → Prop} {esz : Nat} {H H' : Hp} {v c : Value} {l : List α} {id : Nat} (h : Sl R esz H v l) (hc : CS H H' c id) (hid : id ∉ idsOf v) : Sl R esz H' v l :=
  h.frame (fun _ _ _ h => h) fun i off e ln cap hv => hc.2.1 i (fun e2 => hid (by subst hv; subst e2; simp [idsOf]))
theorem Sl.cx {α : Type} {R : α → List Value → Prop} {esz : Nat} {H H' : Hp} {v c : Value} {l : List α} {id : Nat} (h : Sl R esz H v l) (hc : CX H H' c id) (hid : id ∉ idsOf v) : Sl R esz H' v l :=
  h.frame (fun _ _ _ h => h) fun i off e ln cap hv => hc.2.1 i (h.ids i (by subst hv; simp [idsOf])) (fun e2 => hid (by subst hv; subst e2; simp [idsOf]))

theorem Cur.keep {H H' : Hp} {c : Value} {id : Nat} (h : Cur H c id) (hk : ∀ j, j ≤ id → H'[j]? = H[j]?) : Cur H' c id := by
  obtain ⟨rfl, b, i, g, bl, hid, hb, hi, hnb⟩ := h
  exact ⟨rfl, b, i, g, bl, by rw [hk id (Nat.le_refl _)]; exact hid, hb.frame (fun _ _ _ h => h) (fun x off e ln cap hv => hk x (Nat.le_of_lt (hnb x (by subst hv; simp [idsOf])))), hi, hnb⟩
theorem Cur.lt {H : Hp} {c : Value} {id : Nat} (h : Cur H c id) : id < H.length := by
  obtain ⟨rfl, b, i, g, bl, hid, _⟩ := h
  exact (List.getElem?_eq_some_iff.1 hid).1
theorem Cur.pre {H H' : Hp} {c : Value} {id : Nat} (h : Cur H c id) (hp : H <+: H') : Cur H' c id := h.keep fun j hj => pre_get hp (by have := h.lt; omega)
theorem CX.ofPre {H H' : Hp} {c : Value} {id : Nat} (h : Cur H c id) (hp : H <+: H') : CX H H' c id := ⟨h.pre hp, fun j hj _ => pre_get hp hj, hp.length_le⟩
/-- Rows of one's own have changed; the cursor hasn't. -/
theorem CX.own {H H1 H' : Hp} {c : Value} {id : Nat} (h : CX H H1 c id) (hid : id < H.length) (hk : ∀ j, j < H.length → H'[j]? = H1[j]?) (hl : H1.length ≤ H'.length) : CX H H' c id :=
  ⟨h.1.keep fun j hj => hk j (by omega), fun j hj hne => (hk j hj).trans (h.2.1 j hj hne), Nat.le_trans h.2.2 hl⟩
theorem CX.cut {H H' : Hp} {c : Value} {id : Nat} (h : CX H H' c id) (hid : id < H.length) : CS H (H'.take H.length) c id := by
  have hl : (H'.take H.length).length = H.length := by rw [List.length_take]; have := h.2.2; omega
  refine ⟨h.1.keep fun j hj => by rw [List.getElem?_take, if_pos (by omega)], fun j hj => ?_, hl⟩
  by_cases hjl : j < H.length
  · rw [List.getElem?_take, if_pos hjl]; exact h.2.1 j hjl hj
  · rw [List.getElem?_eq_none (by omega), List.getElem?_eq_none (by omega)]
theorem CS.cut {H H' : Hp} {c : Value} {id : Nat} (h : CS H H' c id) : CS H (H'.take H.length) c id := by
  rw [List.take_of_length_le (Nat.le_of_eq h.2.2)]; exact h
theorem CX.pre {H0 H H' : Hp} {c : Value} {id : Nat} (h : CX H H' c id) (hp : H0 <+: H) (hid : H0.length ≤ id) : H0 <+: H' := by
  refine List.prefix_iff_getElem?.2 fun j hj => ?_
  have := hp.length_le
  rw [h.2.1 j (by omega) (by omega), pre_get hp hj, List.getElem?_eq_getElem hj]

theorem and255 (a : Int) : 0 ≤ IntKind.i64.wrap ((BitVec.ofInt IntKind.i64.bits a &&& BitVec.ofInt IntKind.i64.bits 255).toNat : Int) ∧ IntKind.i64.wrap ((BitVec.ofInt IntKind.i64.bits a &&& BitVec.ofInt IntKind.i64.bits 255).toNat : Int) ≤ 255 := by
  have h : (BitVec.ofInt IntKind.i64.bits a &&& BitVec.ofInt IntKind.i64.bits 255).toNat ≤ 255 := by
    rw [BitVec.toNat_and]
    refine Nat.le_trans (Nat.and_le_right) ?_
    decide
  rw [wrap64 _ (by omega) (by omega)]
  omega

theorem f77 {m : Md} {H : Hp} {c : Value} {id : Nat} (hc : Cur H c id) (hw : m.wr id = true) : Fun EE m 77 [c] H fun r H' => ∃ x : Int, r = .int .i64 x ∧ 0 ≤ x ∧ x ≤ 255 ∧ CS H H' c id := by
  refine fun_t rfl rfl k77 (by simp [c77]) fun m' hm => ?_
  have hw : m'.wr id = true := (hm id).trans hw
  obtain ⟨rfl, b, i, h, bl, hid, hb, hi, hnb0⟩ := hc
  have hnb : id ∉ idsOf b := fun hm => by have := hnb0 _ hm; omega
  have hidl := (List.getElem?_eq_some_iff.1 hid).1
  have hset : ∀ q, (H.set id q)[id]? = some q := fun q => List.getElem?_set_self hidl
  have hroom := hb.room
  simp only [go_nil, go_blk, go_skip, go_ret, go_exit, go_seq, go_block, go_reg, go_r0, go_r, go_d0, go_d, go_e0, go_e, box2, Option.isSome_some, Nat.le_refl, go_cond, go_o, go_g, aft_some, cnd_bool, grd_bool, grd_tup, brT_true, brT_false, brT_not, thr_exit, thr_c, thr_nil, stp, stepK, movK, mv1, ex, exv, exvs, upd_some, upd_none, ini, St.val, binK, binV, ofV, pickK, unK, unV, beqK, beq_true, beq_false, if_true, if_false, List.getElem?_cons_zero, List.getElem?_cons_succ, ↓reduceIte, Nat.reduceEqDiff, reduceCtorEq, loadK, adr, deref, Ad.fv, Ad.live, fadrK, List.length_cons, List.length_nil, List.drop_zero, List.drop_succ_cons, List.take_succ_cons, List.take_zero, Nat.reduceAdd, Nat.reduceLeDiff, Nat.zero_add, Nat.add_zero, aeqK, agEq, scEq, boxVK, newVK, exc, vc_agg, vc_int, vc_bool, vc_str, vc_ptr, vc_sl, vc_fn, boxOf, adInf, List.reverse_cons, List.reverse_nil, List.nil_append, List.cons_append, extK, Bool.and_true, Bool.true_and, Bool.not_true, Bool.not_false, resT, resVs, resV, true_and, and_true, storeK, spl_nil, spl_z, spl_1, spl_2, spl_3, spl_4, spl_5, spl_6, spl_7, spl_8, scal_int, scal_bool, scal_str, scal_nil, implies_true, Bool.and_self, Post_ret, Post_normal, PostS_ret, PostS_normal, retT_true, retT_false, flat_bool, flat_int, flat_str, List.take_length, decide_true, decide_false, Option.some.injEq, Value.bool.injEq, Value.int.injEq, Bool.false_and, Bool.and_false, not_false_eq_true, not_true_eq_false, toIntK, List.length_set, Nat.reduceMul, Bool.not_eq_true, Bool.not_eq_false, List.all_cons, List.all_nil, exps, fillL, buildK, strK, nilcK, fnK, callVT, List.size_toArray, List.append_nil, List.singleton_append, boxOK, newOK, scal_nil, List.isEmpty_nil, List.isEmpty_cons, mkVK, mkOK, mkCells, zeros_0, zeros_1, zeros_2, zeros_3, zeros_4, List.map_cons, List.map_nil, c77, hid, hw]
  refine go_draw ?_
  simp only [go_nil, go_blk, go_skip, go_ret, go_exit, go_seq, go_block, go_reg, go_r0, go_r, go_d0, go_d, go_e0, go_e, box2, Option.isSome_some, Nat.le_refl, go_cond, go_o, go_g, aft_some, cnd_bool, grd_bool, grd_tup, brT_true, brT_false, brT_not, thr_exit, thr_c, thr_nil, stp, stepK, movK, mv1, ex, exv, exvs, upd_some, upd_none, ini, St.val, binK, binV, ofV, pickK, unK, unV, beqK, beq_true, beq_false, if_true, if_false, List.getElem?_cons_zero, List.getElem?_cons_succ, ↓reduceIte, Nat.reduceEqDiff, reduceCtorEq, loadK, adr, deref, Ad.fv, Ad.live, fadrK, List.length_cons, List.length_nil, List.drop_zero, List.drop_succ_cons, List.take_succ_cons, List.take_zero, Nat.reduceAdd, Nat.reduceLeDiff, Nat.zero_add, Nat.add_zero, aeqK, agEq, scEq, boxVK, newVK, exc, vc_agg, vc_int, vc_bool, vc_str, vc_ptr, vc_sl, vc_fn, boxOf, adInf, List.reverse_cons, List.reverse_nil, List.nil_append, List.cons_append, extK, Bool.and_true, Bool.true_and, Bool.not_true, Bool.not_false, resT, resVs, resV, true_and, and_true, storeK, spl_nil, spl_z, spl_1, spl_2, spl_3, spl_4, spl_5, spl_6, spl_7, spl_8, scal_int, scal_bool, scal_str, scal_nil, implies_true, Bool.and_self, Post_ret, Post_normal, PostS_ret, PostS_normal, retT_true, retT_false, flat_bool, flat_int, flat_str, List.take_length, decide_true, decide_false, Option.some.injEq, Value.bool.injEq, Value.int.injEq, Bool.false_and, Bool.and_false, not_false_eq_true, not_true_eq_false, toIntK, List.length_set, Nat.reduceMul, Bool.not_eq_true, Bool.not_eq_false, List.all_cons, List.all_nil, exps, fillL, buildK, strK, nilcK, fnK, callVT, List.size_toArray, List.append_nil, List.singleton_append, boxOK, newOK, scal_nil, List.isEmpty_nil, List.isEmpty_cons, mkVK, mkOK, mkCells, zeros_0, zeros_1, zeros_2, zeros_3, zeros_4, List.map_cons, List.map_nil, hset, Int.reduceLT, Bool.false_eq_true]
  refine ⟨by rfl, ?_⟩
  refine go_draw ?_
  simp only [go_nil, go_blk, go_skip, go_ret, go_exit, go_seq, go_block, go_reg, go_r0, go_r, go_d0, go_d, go_e0, go_e, box2, Option.isSome_some, Nat.le_refl, go_cond, go_o, go_g, aft_some, cnd_bool, grd_bool, grd_tup, brT_true, brT_false, brT_not, thr_exit, thr_c, thr_nil, stp, stepK, movK, mv1, ex, exv, exvs, upd_some, upd_none, ini, St.val, binK, binV, ofV, pickK, unK, unV, beqK, beq_true, beq_false, if_true, if_false, List.getElem?_cons_zero, List.getElem?_cons_succ, ↓reduceIte, Nat.reduceEqDiff, reduceCtorEq, loadK, adr, deref, Ad.fv, Ad.live, fadrK, List.length_cons, List.length_nil, List.drop_zero, List.drop_succ_cons, List.take_succ_cons, List.take_zero, Nat.reduceAdd, Nat.reduceLeDiff, Nat.zero_add, Nat.add_zero, aeqK, agEq, scEq, boxVK, newVK, exc, vc_agg, vc_int, vc_bool, vc_str, vc_ptr, vc_sl, vc_fn, boxOf, adInf, List.reverse_cons, List.reverse_nil, List.nil_append, List.cons_append, extK, Bool.and_true, Bool.true_and, Bool.not_true, Bool.not_false, resT, resVs, resV, true_and, and_true, storeK, spl_nil, spl_z, spl_1, spl_2, spl_3, spl_4, spl_5, spl_6, spl_7, spl_8, scal_int, scal_bool, scal_str, scal_nil, implies_true, Bool.and_self, Post_ret, Post_normal, PostS_ret, PostS_normal, retT_true, retT_false, flat_bool, flat_int, flat_str, List.take_length, decide_true, decide_false, Option.some.injEq, Value.bool.injEq, Value.int.injEq, Bool.false_and, Bool.and_false, not_false_eq_true, not_true_eq_false, toIntK, List.length_set, Nat.reduceMul, Bool.not_eq_true, Bool.not_eq_false, List.all_cons, List.all_nil, exps, fillL, buildK, strK, nilcK, fnK, callVT, List.size_toArray, List.append_nil, List.singleton_append, boxOK, newOK, scal_nil, List.isEmpty_nil, List.isEmpty_cons, mkVK, mkOK, mkCells, zeros_0, zeros_1, zeros_2, zeros_3, zeros_4, List.map_cons, List.map_nil, hset, Int.reduceLT]
  simp only [go_nil, go_blk, go_skip, go_ret, go_exit, go_seq, go_block, go_reg, go_r0, go_r, go_d0, go_d, go_e0, go_e, box2, Option.isSome_some, Nat.le_refl, go_cond, go_o, go_g, aft_some, cnd_bool, grd_bool, grd_tup, brT_true, brT_false, brT_not, thr_exit, thr_c, thr_nil, stp, stepK, movK, mv1, ex, exv, exvs, upd_some, upd_none, ini, St.val, binK, binV, ofV, pickK, unK, unV, beqK, beq_true, beq_false, if_true, if_false, List.getElem?_cons_zero, List.getElem?_cons_succ, ↓reduceIte, Nat.reduceEqDiff, reduceCtorEq, loadK, adr, deref, Ad.fv, Ad.live, fadrK, List.length_cons, List.length_nil, List.drop_zero, List.drop_succ_cons, List.take_succ_cons, List.take_zero, Nat.reduceAdd, Nat.reduceLeDiff, Nat.zero_add, Nat.add_zero, aeqK, agEq, scEq, boxVK, newVK, exc, vc_agg, vc_int, vc_bool, vc_str, vc_ptr, vc_sl, vc_fn, boxOf, adInf, List.reverse_cons, List.reverse_nil, List.nil_append, List.cons_append, extK, Bool.and_true, Bool.true_and, Bool.not_true, Bool.not_false, resT, resVs, resV, true_and, and_true, storeK, spl_nil, spl_z, spl_1, spl_2, spl_3, spl_4, spl_5, spl_6, spl_7, spl_8, scal_int, scal_bool, scal_str, scal_nil, implies_true, Bool.and_self, Post_ret, Post_normal, PostS_ret, PostS_normal, retT_true, retT_false, flat_bool, flat_int, flat_str, List.take_length, decide_true, decide_false, Option.some.injEq, Value.bool.injEq, Value.int.injEq, Bool.false_and, Bool.and_false, not_false_eq_true, not_true_eq_false, toIntK, List.length_set, Nat.reduceMul, Bool.not_eq_true, Bool.not_eq_false, List.all_cons, List.all_nil, exps, fillL, buildK, strK, nilcK, fnK, callVT, List.size_toArray, List.append_nil, List.singleton_append, boxOK, newOK, scal_nil, List.isEmpty_nil, List.isEmpty_cons, mkVK, mkOK, mkCells, zeros_0, zeros_1, zeros_2, zeros_3, zeros_4, List.map_cons, List.map_nil, hb.len, Int.reduceLT]
  refine ⟨by rfl, ?_⟩
  have done : ∀ (i' h' : Int) (q : List Value), 0 ≤ i' → q = [b, .int .i64 i', .int .i64 h'] → CS H (H.set id q) (.pointer (some ⟨id, 0, some 3⟩)) id := fun i' h' q hi' hq => by
    subst hq
    exact ⟨⟨rfl, b, i', h', bl, hset _, hb.other hnb, hi', hnb0⟩, fun j hj => List.getElem?_set_ne (fun e => hj e.symm), by simp⟩
  have hcut : ∀ q : List Value, (H.set id q).take H.length = H.set id q := fun q => List.take_of_length_le (by simp)
  refine brT.intro (fun c1 => ?_) (fun c1 => ?_)
  · obtain ⟨k, rfl⟩ : ∃ k : Nat, i = k := ⟨i.toNat, by omega⟩
    have hk : k < bl.length := by have := of_decide_eq_true c1; omega
    obtain ⟨idb, pb, ob, hob, hrb, hiab⟩ := (hb.other (r := [b, .int .i64 k, .int .i64 (IntKind.i64.wrap (IntKind.i64.wrap (h * 6364136223846793005) + 1442695040888963407))]) hnb).byte (List.getElem?_eq_getElem hk)
    simp only [go_nil, go_blk, go_skip, go_ret, go_exit, go_seq, go_block, go_reg, go_r0, go_r, go_d0, go_d, go_e0, go_e, box2, Option.isSome_some, Nat.le_refl, go_cond, go_o, go_g, aft_some, cnd_bool, grd_bool, grd_tup, brT_true, brT_false, brT_not, thr_exit, thr_c, thr_nil, stp, stepK, movK, mv1, ex, exv, exvs, upd_some, upd_none, ini, St.val, binK, binV, ofV, pickK, unK, unV, beqK, beq_true, beq_false, if_true, if_false, List.getElem?_cons_zero, List.getElem?_cons_succ, ↓reduceIte, Nat.reduceEqDiff, reduceCtorEq, loadK, adr, deref, Ad.fv, Ad.live, fadrK, List.length_cons, List.length_nil, List.drop_zero, List.drop_succ_cons, List.take_succ_cons, List.take_zero, Nat.reduceAdd, Nat.reduceLeDiff, Nat.zero_add, Nat.add_zero, aeqK, agEq, scEq, boxVK, newVK, exc, vc_agg, vc_int, vc_bool, vc_str, vc_ptr, vc_sl, vc_fn, boxOf, adInf, List.reverse_cons, List.reverse_nil, List.nil_append, List.cons_append, extK, Bool.and_true, Bool.true_and, Bool.not_true, Bool.not_false, resT, resVs, resV, true_and, and_true, storeK, spl_nil, spl_z, spl_1, spl_2, spl_3, spl_4, spl_5, spl_6, spl_7, spl_8, scal_int, scal_bool, scal_str, scal_nil, implies_true, Bool.and_self, Post_ret, Post_normal, PostS_ret, PostS_normal, retT_true, retT_false, flat_bool, flat_int, flat_str, List.take_length, decide_true, decide_false, Option.some.injEq, Value.bool.injEq, Value.int.injEq, Bool.false_and, Bool.and_false, not_false_eq_true, not_true_eq_false, toIntK, List.length_set, Nat.reduceMul, Bool.not_eq_true, Bool.not_eq_false, List.all_cons, List.all_nil, exps, fillL, buildK, strK, nilcK, fnK, callVT, List.size_toArray, List.append_nil, List.singleton_append, boxOK, newOK, scal_nil, List.isEmpty_nil, List.isEmpty_cons, mkVK, mkOK, mkCells, zeros_0, zeros_1, zeros_2, zeros_3, zeros_4, List.map_cons, List.map_nil]
    refine go_draw ?_
    simp only [go_nil, go_blk, go_skip, go_ret, go_exit, go_seq, go_block, go_reg, go_r0, go_r, go_d0, go_d, go_e0, go_e, box2, Option.isSome_some, Nat.le_refl, go_cond, go_o, go_g, aft_some, cnd_bool, grd_bool, grd_tup, brT_true, brT_false, brT_not, thr_exit, thr_c, thr_nil, stp, stepK, movK, mv1, ex, exv, exvs, upd_some, upd_none, ini, St.val, binK, binV, ofV, pickK, unK, unV, beqK, beq_true, beq_false, if_true, if_false, List.getElem?_cons_zero, List.getElem?_cons_succ, ↓reduceIte, Nat.reduceEqDiff, reduceCtorEq, loadK, adr, deref, Ad.fv, Ad.live, fadrK, List.length_cons, List.length_nil, List.drop_zero, List.drop_succ_cons, List.take_succ_cons, List.take_zero, Nat.reduceAdd, Nat.reduceLeDiff, Nat.zero_add, Nat.add_zero, aeqK, agEq, scEq, boxVK, newVK, exc, vc_agg, vc_int, vc_bool, vc_str, vc_ptr, vc_sl, vc_fn, boxOf, adInf, List.reverse_cons, List.reverse_nil, List.nil_append, List.cons_append, extK, Bool.and_true, Bool.true_and, Bool.not_true, Bool.not_false, resT, resVs, resV, true_and, and_true, storeK, spl_nil, spl_z, spl_1, spl_2, spl_3, spl_4, spl_5, spl_6, spl_7, spl_8, scal_int, scal_bool, scal_str, scal_nil, implies_true, Bool.and_self, Post_ret, Post_normal, PostS_ret, PostS_normal, retT_true, retT_false, flat_bool, flat_int, flat_str, List.take_length, decide_true, decide_false, Option.some.injEq, Value.bool.injEq, Value.int.injEq, Bool.false_and, Bool.and_false, not_false_eq_true, not_true_eq_false, toIntK, List.length_set, Nat.reduceMul, Bool.not_eq_true, Bool.not_eq_false, List.all_cons, List.all_nil, exps, fillL, buildK, strK, nilcK, fnK, callVT, List.size_toArray, List.append_nil, List.singleton_append, boxOK, newOK, scal_nil, List.isEmpty_nil, List.isEmpty_cons, mkVK, mkOK, mkCells, zeros_0, zeros_1, zeros_2, zeros_3, zeros_4, List.map_cons, List.map_nil, hset, hiab, hob, hrb, Int.reduceLT]
    refine ⟨by rfl, ?_⟩
    simp only [go_nil, go_blk, go_skip, go_ret, go_exit, go_seq, go_block, go_reg, go_r0, go_r, go_d0, go_d, go_e0, go_e, box2, Option.isSome_some, Nat.le_refl, go_cond, go_o, go_g, aft_some, cnd_bool, grd_bool, grd_tup, brT_true, brT_false, brT_not, thr_exit, thr_c, thr_nil, stp, stepK, movK, mv1, ex, exv, exvs, upd_some, upd_none, ini, St.val, binK, binV, ofV, pickK, unK, unV, beqK, beq_true, beq_false, if_true, if_false, List.getElem?_cons_zero, List.getElem?_cons_succ, ↓reduceIte, Nat.reduceEqDiff, reduceCtorEq, loadK, adr, deref, Ad.fv, Ad.live, fadrK, List.length_cons, List.length_nil, List.drop_zero, List.drop_succ_cons, List.take_succ_cons, List.take_zero, Nat.reduceAdd, Nat.reduceLeDiff, Nat.zero_add, Nat.add_zero, aeqK, agEq, scEq, boxVK, newVK, exc, vc_agg, vc_int, vc_bool, vc_str, vc_ptr, vc_sl, vc_fn, boxOf, adInf, List.reverse_cons, List.reverse_nil, List.nil_append, List.cons_append, extK, Bool.and_true, Bool.true_and, Bool.not_true, Bool.not_false, resT, resVs, resV, true_and, and_true, storeK, spl_nil, spl_z, spl_1, spl_2, spl_3, spl_4, spl_5, spl_6, spl_7, spl_8, scal_int, scal_bool, scal_str, scal_nil, implies_true, Bool.and_self, Post_ret, Post_normal, PostS_ret, PostS_normal, retT_true, retT_false, flat_bool, flat_int, flat_str, List.take_length, decide_true, decide_false, Option.some.injEq, Value.bool.injEq, Value.int.injEq, Bool.false_and, Bool.and_false, not_false_eq_true, not_true_eq_false, toIntK, List.length_set, Nat.reduceMul, Bool.not_eq_true, Bool.not_eq_false, List.all_cons, List.all_nil, exps, fillL, buildK, strK, nilcK, fnK, callVT, List.size_toArray, List.append_nil, List.singleton_append, boxOK, newOK, scal_nil, List.isEmpty_nil, List.isEmpty_cons, mkVK, mkOK, mkCells, zeros_0, zeros_1, zeros_2, zeros_3, zeros_4, List.map_cons, List.map_nil, hset, hw, List.set_set, wrap64 ((k : Int) + 1) (by omega) (by omega), hcut]
    exact ⟨_, rfl, (and255 _).1, (and255 _).2, done _ _ _ (by omega) rfl⟩
  · simp only [go_nil, go_blk, go_skip, go_ret, go_exit, go_seq, go_block, go_reg, go_r0, go_r, go_d0, go_d, go_e0, go_e, box2, Option.isSome_some, Nat.le_refl, go_cond, go_o, go_g, aft_some, cnd_bool, grd_bool, grd_tup, brT_true, brT_false, brT_not, thr_exit, thr_c, thr_nil, stp, stepK, movK, mv1, ex, exv, exvs, upd_some, upd_none, ini, St.val, binK, binV, ofV, pickK, unK, unV, beqK, beq_true, beq_false, if_true, if_false, List.getElem?_cons_zero, List.getElem?_cons_succ, ↓reduceIte, Nat.reduceEqDiff, reduceCtorEq, loadK, adr, deref, Ad.fv, Ad.live, fadrK, List.length_cons, List.length_nil, List.drop_zero, List.drop_succ_cons, List.take_succ_cons, List.take_zero, Nat.reduceAdd, Nat.reduceLeDiff, Nat.zero_add, Nat.add_zero, aeqK, agEq, scEq, boxVK, newVK, exc, vc_agg, vc_int, vc_bool, vc_str, vc_ptr, vc_sl, vc_fn, boxOf, adInf, List.reverse_cons, List.reverse_nil, List.nil_append, List.cons_append, extK, Bool.and_true, Bool.true_and, Bool.not_true, Bool.not_false, resT, resVs, resV, true_and, and_true, storeK, spl_nil, spl_z, spl_1, spl_2, spl_3, spl_4, spl_5, spl_6, spl_7, spl_8, scal_int, scal_bool, scal_str, scal_nil, implies_true, Bool.and_self, Post_ret, Post_normal, PostS_ret, PostS_normal, retT_true, retT_false, flat_bool, flat_int, flat_str, List.take_length, decide_true, decide_false, Option.some.injEq, Value.bool.injEq, Value.int.injEq, Bool.false_and, Bool.and_false, not_false_eq_true, not_true_eq_false, toIntK, List.length_set, Nat.reduceMul, Bool.not_eq_true, Bool.not_eq_false, List.all_cons, List.all_nil, exps, fillL, buildK, strK, nilcK, fnK, callVT, List.size_toArray, List.append_nil, List.singleton_append, boxOK, newOK, scal_nil, List.isEmpty_nil, List.isEmpty_cons, mkVK, mkOK, mkCells, zeros_0, zeros_1, zeros_2, zeros_3, zeros_4, List.map_cons, List.map_nil, hcut]
    exact ⟨_, rfl, (and255 _).1, (and255 _).2, done _ _ _ hi rfl⟩

/-- A number below another one. -/
def BelowR (H : Hp) (c : Value) (id : Nat) (n : Int) (r : Value) (H' : Hp) : Prop := ∃ x : Int, r = .int .i64 x ∧ 0 ≤ x ∧ (0 < n → x < n) ∧ (n ≤ 0 → x = 0) ∧ CS H H' c id
theorem f51 {m : Md} {H : Hp} {c : Value} {id : Nat} {n : Int} (hc : Cur H c id) (hw : m.wr id = true) : Fun EE m 51 [c, .int .i64 n] H fun r H' => BelowR H c id n r H' := by
  refine fun_t rfl rfl k51 (by simp [c51]) fun m' hm => ?_
  have hw : m'.wr id = true := (hm id).trans hw
  simp only [go_sem, ↓reduceIte, Nat.reduceEqDiff, reduceCtorEq, Nat.reduceAdd, Nat.reduceLeDiff, Nat.reduceMul, c51]
  refine brT.intro (fun q1 => ?_) (fun q1 => ?_) <;> simp only [go_sem, ↓reduceIte, Nat.reduceEqDiff, reduceCtorEq, Nat.reduceAdd, Nat.reduceLeDiff, Nat.reduceMul]
  · exact ⟨0, rfl, by omega, fun h => by have := of_decide_eq_true q1; omega, fun _ => rfl, hc, fun _ _ => rfl, rfl⟩
  have n0 : 0 < n := by have := of_decide_eq_false q1; omega
  have e3 : n ≠ 0 := by omega
  have fin : ∀ {x : Int} {H' : Hp}, 0 ≤ x → CS H H' c id → BelowR H c id n (.int .i64 (Int.tmod x n)) (H'.take H.length) := fun {x H'} hx h => ⟨_, rfl, Int.tmod_nonneg _ hx, fun _ => by rw [Int.tmod_eq_emod_of_nonneg hx]; exact Int.emod_lt_of_pos _ n0, fun h => by omega, h.cut⟩
  refine brT.intro (fun q2 => ?_) (fun q2 => ?_) <;> simp only [go_sem, ↓reduceIte, Nat.reduceEqDiff, reduceCtorEq, Nat.reduceAdd, Nat.reduceLeDiff, Nat.reduceMul]
  · refine callD (f77 hc hw) rfl fun r H1 ⟨x, e, hx0, hx1, hs⟩ => ?_
    subst e
    simp only [go_sem, ↓reduceIte, Nat.reduceEqDiff, reduceCtorEq, Nat.reduceAdd, Nat.reduceLeDiff, Nat.reduceMul, e3]
    exact fin hx0 hs
  refine callD (f77 hc hw) rfl fun r H1 ⟨x, e, hx0, hx1, hs1⟩ => ?_
  subst e
  simp only [go_sem, ↓reduceIte, Nat.reduceEqDiff, reduceCtorEq, Nat.reduceAdd, Nat.reduceLeDiff, Nat.reduceMul]
  refine callD (f77 hs1.1 hw) rfl fun r H2 ⟨y, e, hy0, hy1, hs2⟩ => ?_
  subst e
  simp only [go_sem, ↓reduceIte, Nat.reduceEqDiff, reduceCtorEq, Nat.reduceAdd, Nat.reduceLeDiff, Nat.reduceMul]
  refine callD (f77 hs2.1 hw) rfl fun r H3 ⟨z, e, hz0, hz1, hs3⟩ => ?_
  subst e
  simp only [go_sem, ↓reduceIte, Nat.reduceEqDiff, reduceCtorEq, Nat.reduceAdd, Nat.reduceLeDiff, Nat.reduceMul]
  refine callD (f77 hs3.1 hw) rfl fun r H4 ⟨u, e, hu0, hu1, hs4⟩ => ?_
  subst e
  have a1 := wrap64 (x * 16777216) (by omega) (by omega)
  have a2 := wrap64 (y * 65536) (by omega) (by omega)
  have a3 := wrap64 (x * 16777216 + y * 65536) (by omega) (by omega)
  have a4 := wrap64 (z * 256) (by omega) (by omega)
  have a5 := wrap64 (x * 16777216 + y * 65536 + z * 256) (by omega) (by omega)
  have a6 := wrap64 (x * 16777216 + y * 65536 + z * 256 + u) (by omega) (by omega)
  simp only [go_sem, ↓reduceIte, Nat.reduceEqDiff, reduceCtorEq, Nat.reduceAdd, Nat.reduceLeDiff, Nat.reduceMul, e3, a1, a2, a3, a4, a5, a6]
  exact fin (by omega) (((hs1.trans hs2).trans hs3).trans hs4)

theorem f58 {m : Md} {H : Hp} {c : Value} {id : Nat} {n : Int} (hc : Cur H c id) (hw : m.wr id = true) : Fun EE m 58 [c, .int .i64 n] H fun r H' => ∃ b : Bool, r = .bool b ∧ CS H H' c id := by
  refine fun_t rfl rfl k58 (by simp [c58]) fun m' hm => ?_
  have hw : m'.wr id = true := (hm id).trans hw
  simp only [go_sem, ↓reduceIte, Nat.reduceEqDiff, reduceCtorEq, Nat.reduceAdd, Nat.reduceLeDiff, Nat.reduceMul, c58]
  refine callD (f51 hc hw) rfl fun r H1 ⟨x, e, hx0, hx1, hx2, hs⟩ => ?_
  subst e
  simp only [go_sem, ↓reduceIte, Nat.reduceEqDiff, reduceCtorEq, Nat.reduceAdd, Nat.reduceLeDiff, Nat.reduceMul]
  exact ⟨_, rfl, hs.cut⟩

theorem f50 {m : Md} {H : Hp} {v : Value} {l : List Int} (hl : SlU H v l) : Fun EE m 50 [v] H fun r H' => Cur H' r H.length ∧ H <+: H' ∧ H'.length = H.length + 1 := by
  refine fun_f rfl rfl k50 (by simp [c50]) ?_
  have hroom := hl.room
  simp only [go_sem, ↓reduceIte, Nat.reduceEqDiff, reduceCtorEq, Nat.reduceAdd, Nat.reduceLeDiff, Nat.reduceMul, c50, hl.len]
  refine go_for 4000 (fun i s => s.H = H ∧ s.ρ 0 = .val v ∧ s.ρ 4 = .val (.int .i64 i) ∧ ∃ h : Int, s.ρ 3 = .val (.int .i64 h)) (fun s => s.H = H ∧ s.ρ 0 = .val v ∧ ∃ h : Int, s.ρ 3 = .val (.int .i64 h)) ?_ ?_ ?_
  · exact ⟨rfl, by simp [upd, ini], by simp [upd], _, by simp [upd]; rfl⟩
  · rintro i s hi ⟨hH, h0, h4, h, h3⟩
    simp only [go_sem, ↓reduceIte, Nat.reduceEqDiff, reduceCtorEq, Nat.reduceAdd, Nat.reduceLeDiff, Nat.reduceMul, h0, h3, h4, hl.len]
    refine brT.intro (fun c1 => ?_) (fun c1 => ?_) <;> simp only [go_sem, ↓reduceIte, Nat.reduceEqDiff, reduceCtorEq, Nat.reduceAdd, Nat.reduceLeDiff, Nat.reduceMul, c1, h0, h3, h4]
    · refine brT.intro (fun c2 => ?_) (fun c2 => ?_) <;> simp only [go_sem, ↓reduceIte, Nat.reduceEqDiff, reduceCtorEq, Nat.reduceAdd, Nat.reduceLeDiff, Nat.reduceMul, c1, c2, h0, h3, h4]
      · have hi2 : i < l.length := by have := of_decide_eq_true c1; omega
        have hi3 : i < 4000 := by have := of_decide_eq_true c2; omega
        obtain ⟨id, p, o, ho, hr, hia⟩ := hl.byte (List.getElem?_eq_getElem hi2)
        simp only [go_sem, ↓reduceIte, Nat.reduceEqDiff, reduceCtorEq, Nat.reduceAdd, Nat.reduceLeDiff, Nat.reduceMul, h0, h3, h4, hia, hH, ho, hr, wrap64 ((i : Int) + 1) (by omega) (by omega)]
        exact ⟨hi3, by simp, _, rfl⟩
      · exact ⟨hH, h, rfl⟩
    · exact ⟨hH, h, rfl⟩
  · rintro s ⟨hH, h0, h, h3⟩
    simp only [go_sem, ↓reduceIte, Nat.reduceEqDiff, reduceCtorEq, Nat.reduceAdd, Nat.reduceLeDiff, Nat.reduceMul, h0, h3, hH, hl.vc, exps, fillL, buildK]
    refine ⟨⟨rfl, v, 0, h, l, by simp, hl.pre (List.prefix_append _ _), by omega, hl.ids⟩, List.prefix_append _ _, by simp⟩

theorem f24 {H : Hp} {v : Value} {l : List Int} (hl : SlU H v l) : Scal EE 24 [v] H (.bool (decide ((l.length : Int) > 1048576))) := by
  refine scal_ok rfl rfl k24 (by simp [c24]) rfl fun m hw => ?_
  simp only [go_sem, ↓reduceIte, Nat.reduceEqDiff, reduceCtorEq, Nat.reduceAdd, Nat.reduceLeDiff, Nat.reduceMul, c24, hl.len]

theorem Sl.intD {H : Hp} {v : Value} {l : List Int} (h : Sl (En eI) 1 H v l) {i : Nat} {a : Int} (hi : l[i]? = some a) : ∃ id p o, H[id]? = some o ∧ o[p]? = some (.int .i64 a) ∧
    ∀ (s : St) (x y : X), exv s.ρ x = some v → exv s.ρ y = some (.int .i64 i) → iadrK s 1 x y = some (.val (.pointer (some ⟨id, p, some o.length⟩)), s) := by
  obtain ⟨id, p, o, ho, hr, hp, hia⟩ := h.elem hi
  unfold En at hr
  exact ⟨id, p, o, ho, by simpa [eI] using getElem?_of_take hr (j := 0) (by omega), hia⟩
theorem sl_ints {H : Hp} (l : List Int) (hl : l.length ≤ 9223372036854775807) : Sl (En eI) 1 (H ++ [l.map (Value.int .i64)]) (.slice (some ⟨H.length, 0, some 1⟩) l.length l.length) l :=
  .inr ⟨H.length, 0, l.length, l.map (Value.int .i64), rfl, by simp, by simp, by simp, hl, fun i a hi => by
    unfold En eI
    refine List.ext_getElem? fun j => ?_
    rw [take_drop_get]
    by_cases hj : j < 1
    · have : j = 0 := by omega
      subst this
      rw [if_pos hj, List.getElem?_map, show 0 + i * 1 + 0 = i by omega, hi]
      rfl
    · rw [if_neg hj, List.getElem?_eq_none (by simp; omega)]⟩
/-- One of some numbers. -/
theorem f52 {m : Md} {H : Hp} {c v : Value} {id : Nat} {l : List Int} (hc : Cur H c id) (hw : m.wr id = true) (hl : Sl (En eI) 1 H v l) (h0 : 0 < l.length) (hid : id ∉ idsOf v) : Fun EE m 52 [c, v] H fun r H' => ∃ x ∈ l, r = .int .i64 x ∧ CS H H' c id := by
  refine fun_t rfl rfl k52 (by simp [c52]) fun m' hm => ?_
  have hw : m'.wr id = true := (hm id).trans hw
  have hroom := hl.room
  simp only [go_sem, ↓reduceIte, Nat.reduceEqDiff, reduceCtorEq, Nat.reduceAdd, Nat.reduceLeDiff, Nat.reduceMul, c52, hl.len]
  refine callD (f51 hc hw) rfl fun r H1 ⟨x, e, hx0, hx1, hx2, hs⟩ => ?_
  subst e
  obtain ⟨k, rfl⟩ : ∃ k : Nat, x = k := ⟨x.toNat, by omega⟩
  have hk : k < l.length := by have := hx1 (by omega); omega
  obtain ⟨id2, p, o, ho, hr, hia⟩ := (hl.cs hs hid).intD (List.getElem?_eq_getElem hk)
  simp only [go_sem, ↓reduceIte, Nat.reduceEqDiff, reduceCtorEq, Nat.reduceAdd, Nat.reduceLeDiff, Nat.reduceMul, hia, ho, hr]
  exact ⟨_, List.getElem_mem hk, rfl, hs.cut⟩
end Go.Proofs.Ytceilcdhflcbpaa.Ev

/- The types of the laws' parameters: bytes. -/
namespace Go.Proofs.Ytceilcdhflcbpaa.Ev
set_option linter.all false
open Go
set_option maxRecDepth 100000
theorem bU : Bld Try.prog 5 1 (fun _ (n : Int) vs => vs = [.int .u8 n]) (fun n => (Lit.int .u8 n).wf = true) := Bld.int Try.underlying5 (by kernel_rfl)
theorem aBytes : ArgB Try.prog 43 (fun M (l : List Int) v => SlU M v l) (fun l => ∀ x ∈ l, (Lit.int .u8 x).wf = true) :=
  have h := ArgB.slice (t := 43) (e := 5) Try.underlying43 (by kernel_rfl) (bU.conv (R' := fun _ (n : Int) vs => En eU n vs) (fun n => n) (fun _ _ _ h => h) (fun _ h => h) (fun _ h => h))
  ⟨h.mono, fun a b J M r => by
    obtain ⟨J', M', u, z, a1, a2, a3, a4, a5⟩ := h.arg a b J M r
    exact ⟨J', M', u, z, a1, a2, a3, a4, a5.2⟩⟩
end Go.Proofs.Ytceilcdhflcbpaa.Ev

/- Haves put away, the reference's way. -/
namespace Go.Proofs.Ytceilcdhflcbpaa.Ev
set_option linter.all false
open Go
set_option maxRecDepth 4000

def keepS (h x : Hv) : Bool := !(hOk h && (decide (x.1 = h.1) && (decide (x.2.2.1 ≤ h.2.2.1) && under x.2.2.2.1.toNat h.2.2.2.1.toNat 4)))
theorem f21 {m : Md} {H : Hp} {v : Value} {l : List Hv} {h : Hv} (hl : SlHv H v l) (hw : Wr m H) : Fun EE m 21 [v, vHv h] H fun r H' => PutR H l h r H' := by
  refine fun_f rfl rfl k21 (by simp [c21]) ?_
  have a10 := fun {m draw t d ts Q} => callT_at (m := m) (draw := draw) (s := t) (d := d) (ts := ts) (Q := Q) (f10 hl)
  have e0 : putR l h = putW (keepS h) l h := (putW_eq fun hh x hx hox => by unfold keepS keepN; rw [hh]; rfl).symm
  have p0 : H <+: H ++ [[]] := List.prefix_append _ _
  have s0 : SlHv (H ++ [[]]) (.slice (some ⟨H.length, 0, some 5⟩) 0 (0 * 5)) [] := own_newH
  have o0 : OwnS H.length (.slice (some ⟨H.length, 0, some 5⟩) 0 (0 * 5)) := .inr ⟨_, _, _, _, rfl, Nat.le_refl _⟩
  generalize hwv : Value.slice (some ⟨H.length, 0, some 5⟩) 0 (0 * 5) = wv0 at s0 o0
  have hroom := hl.room
  unfold PutR
  rw [e0]
  unfold putW vHv
  simp only [go_sem, ↓reduceIte, Nat.reduceEqDiff, reduceCtorEq, Nat.reduceAdd, Nat.reduceLeDiff, Nat.reduceMul, c21, a10, hw, fillL, hwv]
  cases hv : hvOk l <;> simp only [go_sem, ↓reduceIte, Nat.reduceEqDiff, reduceCtorEq, Nat.reduceAdd, Nat.reduceLeDiff, Nat.reduceMul, hv, fillL, hwv]
  · (try simp only [go_sem, ↓reduceIte, Nat.reduceEqDiff, reduceCtorEq, Nat.reduceAdd, Nat.reduceLeDiff, Nat.reduceMul, s0.vc])
    exact ⟨wv0, rfl, p0, s0, o0⟩
  have h12 := (hv_t.1 hv).1
  refine go_for l.length (fun i s => H <+: s.H ∧ s.ρ 0 = .val v ∧ s.ρ 3 = .bx 0 (eHv h) ∧ s.ρ 7 = .val (.int .i64 i) ∧ ∃ wv, s.ρ 6 = .val wv ∧ SlHv s.H wv ((l.take i).filter (keepS h)) ∧ OwnS H.length wv)
    (fun s => H <+: s.H ∧ s.ρ 0 = .val v ∧ s.ρ 3 = .bx 0 (eHv h) ∧ ∃ wv, s.ρ 6 = .val wv ∧ SlHv s.H wv (l.filter (keepS h)) ∧ OwnS H.length wv) ?_ ?_ ?_
  · exact ⟨p0, by simp [upd, ini], by simp [upd, eHv], by simp [upd], wv0, by simp [upd], s0, o0⟩
  · rintro i s hi ⟨kH, k0, k3, k7, wv, k6, ks, ko⟩
    have kv := hl.pre kH
    have kw := hw.pre kH
    unfold eHv at k3
    simp only [go_sem, ↓reduceIte, Nat.reduceEqDiff, reduceCtorEq, Nat.reduceAdd, Nat.reduceLeDiff, Nat.reduceMul, k0, k3, k6, k7, kv.len]
    cases q1 : decide ((i : Int) < (l.length : Int)) <;> simp only [go_sem, ↓reduceIte, Nat.reduceEqDiff, reduceCtorEq, Nat.reduceAdd, Nat.reduceLeDiff, Nat.reduceMul, k0, k3, k6, k7, q1]
    · have : i = l.length := by have := of_decide_eq_false q1; omega
      subst this
      rw [List.take_length] at ks
      exact ⟨kH, rfl, wv, rfl, ks, ko⟩
    have hil : i < l.length := by have := of_decide_eq_true q1; omega
    have w1 := wrap64 ((i : Int) + 1) (by omega) (by omega)
    obtain ⟨f, hfl, hf2⟩ := hOk_flags (hv_at hv hil)
    obtain ⟨id, p, o, ho, hr, hp, hia⟩ := kv.elem (List.getElem?_eq_getElem hil)
    have hr : (o.drop p).take 5 = eHv l[i] := hr
    have g0 : o[p]? = some (.int .i64 l[i].1) := by simpa [eHv] using getElem?_of_take hr (j := 0) (by omega)
    have g2 : o[p + 2]? = some (.int .i64 l[i].2.2.1) := by simpa [eHv] using getElem?_of_take hr (j := 2) (by omega)
    have g3 : o[p + 3]? = some (.int .i64 (f : Int)) := by rw [← hfl]; simpa [eHv] using getElem?_of_take hr (j := 3) (by omega)
    unfold eHv at hr
    have hf := filt_succ (p := keepS h) hil
    have hlen := filt_len (p := keepS h) (l := l) (i := i)
    obtain ⟨v5, H5, e1, e2, e3, e4, e5, e6, e7⟩ := ks.oneHv (m := m) l[i] ko kH.length_le hw (by omega)
    unfold eHv at e1
    have yes : keepS h l[i] = true → SlHv H5 v5 ((l.take (i + 1)).filter (keepS h)) := fun hk => by
      rw [if_pos hk] at hf
      rw [hf]
      exact e2
    have p5 := e7 H (Nat.le_refl _) kH
    refine go_draw ?_
    simp only [go_sem, ↓reduceIte, Nat.reduceEqDiff, reduceCtorEq, Nat.reduceAdd, Nat.reduceLeDiff, Nat.reduceMul, k0, k3, k6, k7, c40', kw]
    cases hh : hOk h with
    | false =>
      simp only [go_sem, ↓reduceIte, Nat.reduceEqDiff, reduceCtorEq, Nat.reduceAdd, Nat.reduceLeDiff, Nat.reduceMul, k0, k3, k6, k7, hh]
      refine ⟨by rfl, ?_⟩
      simp only [go_sem, ↓reduceIte, Nat.reduceEqDiff, reduceCtorEq, Nat.reduceAdd, Nat.reduceLeDiff, Nat.reduceMul, k0, k3, k6, k7, hia, ho, hr, hp]
      rw [e1]
      rotate_left
      · rfl
      · rfl
      · rfl
      simp only [go_sem, ↓reduceIte, Nat.reduceEqDiff, reduceCtorEq, Nat.reduceAdd, Nat.reduceLeDiff, Nat.reduceMul, k0, k3, k6, k7, w1]
      exact ⟨hil, p5, rfl, by simp, v5, rfl, yes (by unfold keepS; rw [hh]; rfl), e3⟩
    | true =>
      obtain ⟨g, hgl, hg2⟩ := hOk_flags hh
      have a49 := fun {m draw t d ts Q} => callT_at (m := m) (draw := draw) (s := t) (d := d) (ts := ts) (Q := Q) (f49 (H := s.H) hf2 hg2)
      simp only [go_sem, ↓reduceIte, Nat.reduceEqDiff, reduceCtorEq, Nat.reduceAdd, Nat.reduceLeDiff, Nat.reduceMul, k0, k3, k6, k7, hh, hia, ho, g0]
      cases q2 : decide (l[i].1 = h.1)
      · simp only [go_sem, ↓reduceIte, Nat.reduceEqDiff, reduceCtorEq, Nat.reduceAdd, Nat.reduceLeDiff, Nat.reduceMul, k0, k3, k6, k7, q2]
        refine ⟨by rfl, ?_⟩
        simp only [go_sem, ↓reduceIte, Nat.reduceEqDiff, reduceCtorEq, Nat.reduceAdd, Nat.reduceLeDiff, Nat.reduceMul, k0, k3, k6, k7, hia, ho, hr, hp]
        rw [e1]
        rotate_left
        · rfl
        · rfl
        · rfl
        simp only [go_sem, ↓reduceIte, Nat.reduceEqDiff, reduceCtorEq, Nat.reduceAdd, Nat.reduceLeDiff, Nat.reduceMul, k0, k3, k6, k7, w1]
        exact ⟨hil, p5, rfl, by simp, v5, rfl, yes (by unfold keepS; rw [hh, q2]; rfl), e3⟩
      simp only [go_sem, ↓reduceIte, Nat.reduceEqDiff, reduceCtorEq, Nat.reduceAdd, Nat.reduceLeDiff, Nat.reduceMul, k0, k3, k6, k7, q2, hia, ho, g2]
      cases q3 : decide (l[i].2.2.1 ≤ h.2.2.1)
      · simp only [go_sem, ↓reduceIte, Nat.reduceEqDiff, reduceCtorEq, Nat.reduceAdd, Nat.reduceLeDiff, Nat.reduceMul, k0, k3, k6, k7, q3]
        refine ⟨by rfl, ?_⟩
        simp only [go_sem, ↓reduceIte, Nat.reduceEqDiff, reduceCtorEq, Nat.reduceAdd, Nat.reduceLeDiff, Nat.reduceMul, k0, k3, k6, k7, hia, ho, hr, hp]
        rw [e1]
        rotate_left
        · rfl
        · rfl
        · rfl
        simp only [go_sem, ↓reduceIte, Nat.reduceEqDiff, reduceCtorEq, Nat.reduceAdd, Nat.reduceLeDiff, Nat.reduceMul, k0, k3, k6, k7, w1]
        exact ⟨hil, p5, rfl, by simp, v5, rfl, yes (by unfold keepS; rw [hh, q2, q3]; rfl), e3⟩
      simp only [go_sem, ↓reduceIte, Nat.reduceEqDiff, reduceCtorEq, Nat.reduceAdd, Nat.reduceLeDiff, Nat.reduceMul, k0, k3, k6, k7, q3, hia, ho, g3, hgl, a49, kw]
      cases q4 : under f g 4
      · simp only [go_sem, ↓reduceIte, Nat.reduceEqDiff, reduceCtorEq, Nat.reduceAdd, Nat.reduceLeDiff, Nat.reduceMul, k0, k3, k6, k7, q4]
        refine ⟨by rfl, ?_⟩
        simp only [go_sem, ↓reduceIte, Nat.reduceEqDiff, reduceCtorEq, Nat.reduceAdd, Nat.reduceLeDiff, Nat.reduceMul, k0, k3, k6, k7, hia, ho, hr, hp]
        rw [e1]
        rotate_left
        · rfl
        · rfl
        · rfl
        simp only [go_sem, ↓reduceIte, Nat.reduceEqDiff, reduceCtorEq, Nat.reduceAdd, Nat.reduceLeDiff, Nat.reduceMul, k0, k3, k6, k7, w1]
        refine ⟨hil, p5, by unfold eHv; rw [hgl], by simp, v5, rfl, yes (by unfold keepS; rw [hh, q2, q3, hfl, hgl, Int.toNat_natCast, Int.toNat_natCast, q4]; rfl), e3⟩
      · simp only [go_sem, ↓reduceIte, Nat.reduceEqDiff, reduceCtorEq, Nat.reduceAdd, Nat.reduceLeDiff, Nat.reduceMul, k0, k3, k6, k7, q4]
        refine ⟨by rfl, ?_⟩
        simp only [go_sem, ↓reduceIte, Nat.reduceEqDiff, reduceCtorEq, Nat.reduceAdd, Nat.reduceLeDiff, Nat.reduceMul, k0, k3, k6, k7, w1]
        rw [if_neg (by unfold keepS; rw [hh, q2, q3, hfl, hgl, Int.toNat_natCast, Int.toNat_natCast, q4]; decide)] at hf
        exact ⟨hil, kH, by unfold eHv; rw [hgl], by simp, wv, rfl, by rw [hf]; exact ks, ko⟩
  · rintro s ⟨kH, k0, k3, wv, k6, ks, ko⟩
    have hlen := List.length_filter_le (keepS h) l
    obtain ⟨v5, H5, e1, e2, e3, e4, e5, e6, e7⟩ := ks.oneHv (m := m) h ko kH.length_le hw (by omega)
    have p5 := e7 H (Nat.le_refl _) kH
    have b10 := fun {m draw t d ts Q} => callT_at (m := m) (draw := draw) (s := t) (d := d) (ts := ts) (Q := Q) (f10 e2)
    unfold eHv at k3 e1
    simp only [go_sem, ↓reduceIte, Nat.reduceEqDiff, reduceCtorEq, Nat.reduceAdd, Nat.reduceLeDiff, Nat.reduceMul, k0, k3, k6]
    rw [e1]
    rotate_left
    · rfl
    · rfl
    · rfl
    simp only [go_sem, ↓reduceIte, Nat.reduceEqDiff, reduceCtorEq, Nat.reduceAdd, Nat.reduceLeDiff, Nat.reduceMul, k0, k3, k6, b10, hw.pre p5]
    cases hv2 : hvOk (l.filter (keepS h) ++ [h]) <;> simp only [go_sem, ↓reduceIte, Nat.reduceEqDiff, reduceCtorEq, Nat.reduceAdd, Nat.reduceLeDiff, Nat.reduceMul, k0, k3, k6, hv2, fillL]
    · have p6 : H5 <+: H5 ++ [[]] := List.prefix_append _ _
      have s6 : SlHv (H5 ++ [[]]) (.slice (some ⟨H5.length, 0, some 5⟩) 0 (0 * 5)) [] := own_newH
      have o6 : OwnS H5.length (.slice (some ⟨H5.length, 0, some 5⟩) 0 (0 * 5)) := .inr ⟨_, _, _, _, rfl, Nat.le_refl _⟩
      obtain ⟨v6, H6, g1, g2, g3, g4, g5, g6, g7⟩ := s6.join (m := m) (N := H5.length) (bytes := 40) ((hl.pre p5).pre p6) (fun _ => rfl) (by omega) o6 p6.length_le (hw.pre p5) (by unfold Ev.room; simp; omega) (by unfold Ev.room; simp; omega)
      rw [g1]
      rotate_left
      · rfl
      · rfl
      · rfl
      (try simp only [go_sem, ↓reduceIte, Nat.reduceEqDiff, reduceCtorEq, Nat.reduceAdd, Nat.reduceLeDiff, Nat.reduceMul, g2.vc])
      exact ⟨v6, rfl, p5.trans (g7 H5 (Nat.le_refl _) p6), by simpa using g2, g3.mono p5.length_le⟩
    · (try simp only [go_sem, ↓reduceIte, Nat.reduceEqDiff, reduceCtorEq, Nat.reduceAdd, Nat.reduceLeDiff, Nat.reduceMul, e2.vc])
      exact ⟨v5, rfl, p5, e2, e3⟩
end Go.Proofs.Ytceilcdhflcbpaa.Ev

/- What the best have is; what putting away and purging leave: plain. -/
namespace Go.Proofs.Ytceilcdhflcbpaa.Ev
set_option linter.all false
open Go
set_option maxRecDepth 4000

/-- What the fold holds: the flag, and the best so far. -/
theorem bestF_spec (P : Hv → Bool) : ∀ (l : List Hv), ((bestF P l).2 = true → (bestF P l).1 ∈ l ∧ P (bestF P l).1 = true) ∧ (∀ z ∈ l, P z = true → (bestF P l).2 = true ∧ z.2.2.1 ≤ (bestF P l).1.2.2.1) := by
  have key : ∀ (l : List Hv) (i : Nat), i ≤ l.length → ((bestF P (l.take i)).2 = true → (bestF P (l.take i)).1 ∈ l.take i ∧ P (bestF P (l.take i)).1 = true) ∧ (∀ z ∈ l.take i, P z = true → (bestF P (l.take i)).2 = true ∧ z.2.2.1 ≤ (bestF P (l.take i)).1.2.2.1) := by
    intro l i
    induction i with
    | zero => intro _; simp [bestF]
    | succ i ih =>
      intro hi
      have hil : i < l.length := by omega
      obtain ⟨i1, i2⟩ := ih (by omega)
      rw [bestF_succ hil, List.take_succ_eq_append_getElem hil]
      unfold bstep
      split
      · rename_i h
        refine ⟨fun _ => ⟨List.mem_append_right _ (List.mem_singleton.2 rfl), h.1⟩, fun z hz hp => ⟨rfl, ?_⟩⟩
        rcases List.mem_append.1 hz with hz | hz
        · obtain ⟨j1, j2⟩ := i2 z hz hp
          rcases h.2 with h2 | h2
          · rw [h2] at j1; cases j1
          · simp only; omega
        · rw [List.mem_singleton] at hz
          subst hz
          exact Int.le_refl _
      · rename_i h
        refine ⟨fun h2 => ⟨List.mem_append_left _ (i1 h2).1, (i1 h2).2⟩, fun z hz hp => ?_⟩
        rcases List.mem_append.1 hz with hz | hz
        · exact i2 z hz hp
        · rw [List.mem_singleton] at hz
          subst hz
          cases hb : (bestF P (l.take i)).2 with
          | false => exact absurd ⟨hp, .inl hb⟩ h
          | true =>
            refine ⟨rfl, ?_⟩
            have : ¬ l[i].2.2.1 > (bestF P (l.take i)).1.2.2.1 := fun h3 => h ⟨hp, .inr h3⟩
            omega
  intro l
  have := key l l.length (Nat.le_refl _)
  rw [List.take_length] at this
  exact this
theorem bestF_cons {P : Hv → Bool} {st : Hv × Bool} : ∀ {l k : List Hv}, (∀ z, z ∈ l → P z = true → k.filter P = l.filter P) → l.filter P = k.filter P → l.foldl (bstep P) st = k.foldl (bstep P) st := by
  have fl : ∀ (l : List Hv) (st : Hv × Bool), l.foldl (bstep P) st = (l.filter P).foldl (bstep P) st := by
    intro l
    induction l with
    | nil => intro st; rfl
    | cons z l ih =>
      intro st
      rw [List.foldl_cons, ih]
      cases hp : P z with
      | true => rw [List.filter_cons_of_pos hp, List.foldl_cons]
      | false =>
        rw [List.filter_cons_of_neg (by rw [hp]; decide)]
        congr 1
        unfold bstep
        rw [if_neg (by rw [hp]; simp)]
  intro l k _ h
  rw [fl l, fl k, h]
theorem hv_sub {l k : List Hv} (h : hvOk l = true) (hs : k.Sublist l) : hvOk k = true := by
  have h := hv_t.1 h
  have nd : (keysH l).Nodup := by
    unfold keysH List.Nodup
    refine List.pairwise_iff_getElem.2 fun i j hi hj hij => ?_
    simp only [List.length_map] at hi hj
    simp only [List.getElem_map]
    intro e
    have h1 := (h.2 j hj).2
    have h2 := keysH_at (l := l) hij (by omega)
    rw [e] at h2
    exact h1 h2
  have nk : (keysH k).Nodup := (hs.map _).nodup nd
  refine hv_t.2 ⟨Nat.le_trans hs.length_le h.1, fun i hi => ⟨?_, fun hm => ?_⟩⟩
  · have := hs.subset (List.getElem_mem hi)
    obtain ⟨j, hj, e⟩ := List.mem_iff_getElem.1 this
    rw [← e]
    exact (h.2 j hj).1
  · obtain ⟨z, hz, e⟩ := List.mem_map.1 hm
    obtain ⟨j, hj, rfl⟩ := List.mem_iff_getElem.1 hz
    rw [List.length_take] at hj
    rw [List.getElem_take] at e
    unfold keysH List.Nodup at nk
    have := List.pairwise_iff_getElem.1 nk j i (by simp; omega) (by simp; omega) (by omega)
    simp only [List.getElem_map] at this
    exact this e
/-- Those that are over are no loss. -/
theorem best_purge (p : List Hv) (s k fl : Int) : bestR (purgeR p k) s k fl = bestR p s k fl := by
  unfold purgeR
  cases hv : hvOk p with
  | false =>
    rw [if_neg (by decide)]
    unfold bestR
    rw [hv]
    simp [bestF]
  | true =>
    rw [if_pos rfl]
    have hs := hv_sub hv (List.filter_sublist (p := fun z : Hv => decide (z.2.2.1 ≥ k)) (l := p))
    unfold bestR
    rw [if_pos hv, if_pos hs]
    unfold bestF
    have e : ∀ z, livN s k fl z = true → decide (z.2.2.1 ≥ k) = true := fun z hz => by
      unfold livN at hz
      simp only [Bool.and_eq_true, inB_t] at hz
      exact decide_eq_true hz.2.1.2
    have e2 : (p.filter (fun z => decide (z.2.2.1 ≥ k))).filter (livN s k fl) = p.filter (livN s k fl) := by
      rw [List.filter_filter]
      refine List.filter_congr fun z _ => ?_
      cases hl : livN s k fl z with
      | false => rfl
      | true => rw [e z hl]; rfl
    exact bestF_cons (fun _ _ _ => e2.symm ▸ rfl) e2
/-- What is put away for a new one was no better for anything. -/
theorem best_put {l : List Hv} {h : Hv} {s : Int} (hp : (putR l h).2 = true) (hi : h.2.2.2.1.toNat.testBit 4 = false) (hb : (bestR l s h.2.1 0).2 = true) : (bestR (putR l h).1 s h.2.1 0).2 = true ∧ (bestR l s h.2.1 0).1.2.2.1 ≤ (bestR (putR l h).1 s h.2.1 0).1.2.2.1 := by
  have hv : hvOk l = true := by
    cases hv : hvOk l with
    | true => rfl
    | false => unfold bestR at hb; rw [if_neg (by rw [hv]; decide)] at hb; cases hb
  have hx : hvOk (l.filter (keepN h) ++ [h]) = true := by
    cases hx : hvOk (l.filter (keepN h) ++ [h]) with
    | true => rfl
    | false => unfold putR putW at hp; rw [if_pos hv, if_neg (by rw [hx]; decide)] at hp; cases hp
  have he : (putR l h).1 = l.filter (keepN h) ++ [h] := by unfold putR putW; rw [if_pos hv, if_pos hx]
  rw [he]
  have hho : hOk h = true := by
    have := hv_at hx (i := (l.filter (keepN h)).length) (by simp)
    rw [List.getElem_append_right (Nat.le_refl _)] at this
    simpa using this
  unfold bestR at hb ⊢
  rw [if_pos hv] at hb ⊢
  rw [if_pos hx]
  obtain ⟨b1, b2⟩ := (bestF_spec (livN s h.2.1 0) l).1 hb
  generalize hB : (bestF (livN s h.2.1 0) l).1 = a at b1 b2 ⊢
  have sp := (bestF_spec (livN s h.2.1 0) (l.filter (keepN h) ++ [h])).2
  cases hk : keepN h a with
  | true => exact sp a (List.mem_append_left _ (List.mem_filter.2 ⟨b1, hk⟩)) b2
  | false =>
    have hk' : a.1 = h.1 ∧ a.2.2.1 ≤ h.2.2.1 := by
      unfold keepN at hk
      simp only [Bool.not_eq_false', Bool.and_eq_true, decide_eq_true_eq] at hk
      exact ⟨hk.1, hk.2.1⟩
    have hliv : livN s h.2.1 0 h = true := by
      unfold livN at b2 ⊢
      simp only [Bool.and_eq_true, decide_eq_true_eq, inB_t] at b2 ⊢
      simp only [hOk, Bool.and_eq_true, inB_t, decide_eq_true_eq] at hho
      refine ⟨by rw [← hk'.1]; exact b2.1, ⟨by omega, by omega⟩, by rw [hi]; rfl, ⟨by omega, by omega⟩, under_t.2 fun j _ hj => ?_⟩
      simp at hj
    obtain ⟨c1, c2⟩ := sp h (by simp) hliv
    exact ⟨c1, by omega⟩
theorem putR_no {l : List Hv} {h : Hv} (hv : hvOk l = false) : putR l h = ([], false) := by unfold putR putW; rw [if_neg (by rw [hv]; decide)]
theorem putR_ok {l : List Hv} {h : Hv} (hv : hvOk l = true) : hvOk (putR l h).1 = true ∧ ((putR l h).2 = false → (putR l h).1 = l) ∧ ((putR l h).2 = true → hOk h = true) := by
  unfold putR putW
  rw [if_pos hv]
  cases hx : hvOk (l.filter (keepN h) ++ [h]) with
  | false => rw [if_neg (by decide)]; exact ⟨hv, fun _ => rfl, fun h => by cases h⟩
  | true =>
    rw [if_pos rfl]
    refine ⟨hx, fun h => (by cases h), fun _ => ?_⟩
    cases hh : hOk h with
    | true => rfl
    | false => rw [hv_last hh] at hx; cases hx
end Go.Proofs.Ytceilcdhflcbpaa.Ev

/- Draws of haves. -/
namespace Go.Proofs.Ytceilcdhflcbpaa.Ev
set_option linter.all false
open Go
set_option maxRecDepth 4000

theorem zeros_6 (z : List Value) : zeros 6 z = z ++ (z ++ (z ++ (z ++ (z ++ z)))) := by simp [zeros, List.replicate_succ]
theorem zeros_7 (z : List Value) : zeros 7 z = z ++ (z ++ (z ++ (z ++ (z ++ (z ++ z))))) := by simp [zeros, List.replicate_succ]
def HvD (H : Hp) (c : Value) (id : Nat) (r : Value) (H' : Hp) : Prop := ∃ z : Hv, r = vHv z ∧ CS H H' c id
theorem f54 {m : Md} {H : Hp} {c : Value} {id : Nat} (hc : Cur H c id) (hw0 : Wr m H) (hw : m.wr id = true) : Fun EE m 54 [c] H fun r H' => HvD H c id r H' := by
  have hid := hc.lt
  have hcp := hc.1
  subst hcp
  refine fun_t rfl rfl k54 (by simp [c54]) fun m' hm => ?_
  have hw0 : Wr m' H := fun i hi => (hm i).trans (hw0 i hi)
  have hw : m'.wr id = true := (hm id).trans hw
  simp only [go_sem, ↓reduceIte, Nat.reduceEqDiff, reduceCtorEq, Nat.reduceAdd, Nat.reduceLeDiff, Nat.reduceMul, c54]
  refine callD (f51 hc hw) rfl fun r H1 ⟨a, e, _, _, _, cs1⟩ => ?_
  subst e
  simp only [go_sem, ↓reduceIte, Nat.reduceEqDiff, reduceCtorEq, Nat.reduceAdd, Nat.reduceLeDiff, Nat.reduceMul]
  refine callD (f51 cs1.1 hw) rfl fun r H2 ⟨b, e, _, _, _, cs2⟩ => ?_
  subst e
  have c2 := cs1.trans cs2
  have n2 := c2.2.2
  have hl := sl_ints (H := H2) [0, 1, 3, 15, 31, 64, 5] (by simp)
  have pn := List.prefix_append H2 [[(0 : Int), 1, 3, 15, 31, 64, 5].map (Value.int .i64)]
  have cn := c2.cx.trans (CX.ofPre c2.1 pn)
  simp only [go_sem, ↓reduceIte, Nat.reduceEqDiff, reduceCtorEq, Nat.reduceAdd, Nat.reduceLeDiff, Nat.reduceMul, fillL, zeros_7]
  refine callD (f52 cn.1 hw hl (by simp) (by simp [idsOf]; omega)) rfl fun r H3 ⟨x, _, e, cs3⟩ => ?_
  subst e
  have c3 := cn.trans cs3.cx
  simp only [go_sem, ↓reduceIte, Nat.reduceEqDiff, reduceCtorEq, Nat.reduceAdd, Nat.reduceLeDiff, Nat.reduceMul]
  refine callD (f51 c3.1 hw) rfl fun r H4 ⟨k, e, _, _, _, cs4⟩ => ?_
  subst e
  have c4 := c3.trans cs4.cx
  have n4 := c4.2.2
  simp only [go_sem, ↓reduceIte, Nat.reduceEqDiff, reduceCtorEq, Nat.reduceAdd, Nat.reduceLeDiff, Nat.reduceMul, buildK, fillL, exps]
  refine go_draw ?_
  simp only [go_sem, ↓reduceIte, Nat.reduceEqDiff, reduceCtorEq, Nat.reduceAdd, Nat.reduceLeDiff, Nat.reduceMul]
  refine callT_arg (by rfl) (fun m2 h1 h2 h3 => f51 (n := 30) c4.1 (h2 id (by simp [idsOf]) hw)) rfl (fun i hi => hw0 i (by omega)) fun r H5 ⟨y, e, _, _, _, cs5⟩ => ?_
  subst e
  have c5 := c4.trans cs5.cx
  simp only [go_sem, ↓reduceIte, Nat.reduceEqDiff, reduceCtorEq, Nat.reduceAdd, Nat.reduceLeDiff, Nat.reduceMul]
  refine ⟨by rfl, ?_⟩
  (try simp only [go_sem, ↓reduceIte, Nat.reduceEqDiff, reduceCtorEq, Nat.reduceAdd, Nat.reduceLeDiff, Nat.reduceMul])
  refine callD (f58 c5.1 hw) rfl fun r H6 ⟨bb, e, cs6⟩ => ?_
  subst e
  have c6 := c5.trans cs6.cx
  simp only [go_sem, ↓reduceIte, Nat.reduceEqDiff, reduceCtorEq, Nat.reduceAdd, Nat.reduceLeDiff, Nat.reduceMul]
  cases bb with
  | false =>
    simp only [go_sem, ↓reduceIte, Nat.reduceEqDiff, reduceCtorEq, Nat.reduceAdd, Nat.reduceLeDiff, Nat.reduceMul]
    exact ⟨by rfl, (_, _, _, _, _), rfl, c6.cut hid⟩
  | true =>
    simp only [go_sem, ↓reduceIte, Nat.reduceEqDiff, reduceCtorEq, Nat.reduceAdd, Nat.reduceLeDiff, Nat.reduceMul]
    refine callD (f51 c6.1 hw) rfl fun r H7 ⟨w, e, _, _, _, cs7⟩ => ?_
    subst e
    have c7 := c6.trans cs7.cx
    simp only [go_sem, ↓reduceIte, Nat.reduceEqDiff, reduceCtorEq, Nat.reduceAdd, Nat.reduceLeDiff, Nat.reduceMul]
    cases q0 : decide (w = 0) <;> simp only [go_sem, ↓reduceIte, Nat.reduceEqDiff, reduceCtorEq, Nat.reduceAdd, Nat.reduceLeDiff, Nat.reduceMul, q0]
    · cases q1 : decide (w = 1) <;> simp only [go_sem, ↓reduceIte, Nat.reduceEqDiff, reduceCtorEq, Nat.reduceAdd, Nat.reduceLeDiff, Nat.reduceMul, q1]
      · exact ⟨by rfl, (_, _, _, _, _), rfl, c7.cut hid⟩
      · exact ⟨by rfl, (_, _, _, _, _), rfl, c7.cut hid⟩
    · exact ⟨by rfl, (_, _, _, _, _), rfl, c7.cut hid⟩
theorem putR_len (l : List Hv) (h : Hv) : (putR l h).1.length ≤ 12 := by
  unfold putR putW
  split
  · rename_i hv
    have := (hv_t.1 hv).1
    split
    · rename_i hv2
      exact (hv_t.1 hv2).1
    · exact this
  · simp
def HsD (H : Hp) (c : Value) (id : Nat) (r : Value) (H' : Hp) : Prop := ∃ l : List Hv, SlHv H' r l ∧ OwnS H.length r ∧ CX H H' c id ∧ l.length ≤ 13
theorem f53 {m : Md} {H : Hp} {c : Value} {id : Nat} (hc : Cur H c id) (hw0 : Wr m H) (hw : m.wr id = true) : Fun EE m 53 [c] H fun r H' => HsD H c id r H' := by
  refine fun_f rfl rfl k53 (by simp [c53]) ?_
  have hid := hc.lt
  have p0 : H <+: H ++ [[]] := List.prefix_append _ _
  have s0 : SlHv (H ++ [[]]) (.slice (some ⟨H.length, 0, some 5⟩) 0 (0 * 5)) [] := own_newH
  have o0 : OwnS H.length (.slice (some ⟨H.length, 0, some 5⟩) 0 (0 * 5)) := .inr ⟨_, _, _, _, rfl, Nat.le_refl _⟩
  generalize hwv : Value.slice (some ⟨H.length, 0, some 5⟩) 0 (0 * 5) = wv0 at s0 o0
  have c0 := CX.ofPre hc p0
  simp only [go_sem, ↓reduceIte, Nat.reduceEqDiff, reduceCtorEq, Nat.reduceAdd, Nat.reduceLeDiff, Nat.reduceMul, c53, fillL, hwv]
  refine callD (f51 c0.1 hw) rfl fun r H1 ⟨n0, e, y0, y1, _, cs1⟩ => ?_
  subst e
  obtain ⟨n, rfl⟩ : ∃ n : Nat, n0 = n := ⟨n0.toNat, by omega⟩
  have y1 := y1 (by omega)
  have c1 := c0.trans cs1.cx
  have s1 := s0.cs cs1 (own_notin o0 hid)
  simp only [go_sem, ↓reduceIte, Nat.reduceEqDiff, reduceCtorEq, Nat.reduceAdd, Nat.reduceLeDiff, Nat.reduceMul]
  refine go_loop (fun n t => t.ρ 0 = .val c ∧ t.ρ 4 = .val (.int .i64 n) ∧ n ≤ 12 ∧ CX H t.H c id ∧ ∃ wv l, t.ρ 3 = .val wv ∧ SlHv t.H wv l ∧ OwnS H.length wv ∧ l.length ≤ 12)
    (fun t => t.ρ 0 = .val c ∧ CX H t.H c id ∧ ∃ wv l, t.ρ 3 = .val wv ∧ SlHv t.H wv l ∧ OwnS H.length wv ∧ l.length ≤ 12) n ?_ ?_ ?_
  · exact ⟨by simp [upd, ini], by simp [upd], by omega, c1, wv0, [], by simp [upd], s1, o0, by simp⟩
  · rintro n t ⟨t0, t4, hn12, tc, wv, l, t3, ts, to, tl⟩
    simp only [go_sem, ↓reduceIte, Nat.reduceEqDiff, reduceCtorEq, Nat.reduceAdd, Nat.reduceLeDiff, Nat.reduceMul, t0, t3, t4]
    cases qn : decide ((n : Int) > 0) <;> simp only [go_sem, ↓reduceIte, Nat.reduceEqDiff, reduceCtorEq, Nat.reduceAdd, Nat.reduceLeDiff, Nat.reduceMul, t0, t3, t4, qn]
    · exact ⟨tc, wv, l, rfl, ts, to, tl⟩
    have hn : 0 < n := by have := of_decide_eq_true qn; omega
    have wn : IntKind.i64.wrap ((n : Int) - 1) = ((n - 1 : Nat) : Int) := by rw [wrap64 _ (by omega) (by omega)]; omega
    have hwt : Wr m t.H := fun i hi => hw0 i (by have := tc.2.2; omega)
    refine callD (f54 tc.1 hwt hw) rfl fun r H2 ⟨z, e, cs2⟩ => ?_
    subst e
    have c2 := tc.trans cs2.cx
    have n2 := c2.2.2
    have s2 := ts.cs cs2 (own_notin to hid)
    simp only [go_sem, ↓reduceIte, Nat.reduceEqDiff, reduceCtorEq, Nat.reduceAdd, Nat.reduceLeDiff, Nat.reduceMul, t0, t3, t4]
    refine callT_to (fun m' h => f21 (h := z) s2 h) rfl (fun i hi => hw0 i (by omega)) fun r H3 ⟨u, e, p3, s3, o3⟩ => ?_
    subst e
    have p3 : H2 <+: H3 := p3
    have o3 : OwnS H2.length u := o3
    simp only [go_sem, ↓reduceIte, Nat.reduceEqDiff, reduceCtorEq, Nat.reduceAdd, Nat.reduceLeDiff, Nat.reduceMul, t0, t3, t4, List.getElem?_toArray, ofV, wn]
    exact ⟨n - 1, by omega, rfl, by omega, c2.trans (CX.ofPre c2.1 p3), u, _, rfl, s3, o3.mono n2, putR_len l z⟩
  · rintro t ⟨t0, tc, wv, l, t3, ts, to, tl⟩
    have nt := tc.2.2
    simp only [go_sem, ↓reduceIte, Nat.reduceEqDiff, reduceCtorEq, Nat.reduceAdd, Nat.reduceLeDiff, Nat.reduceMul, t0, t3]
    refine callD (f58 tc.1 hw) rfl fun r H2 ⟨bb, e, cs2⟩ => ?_
    subst e
    have c2 := tc.trans cs2.cx
    have s2 := ts.cs cs2 (own_notin to hid)
    simp only [go_sem, ↓reduceIte, Nat.reduceEqDiff, reduceCtorEq, Nat.reduceAdd, Nat.reduceLeDiff, Nat.reduceMul, t0, t3]
    cases bb with
    | false =>
      simp only [go_sem, ↓reduceIte, Nat.reduceEqDiff, reduceCtorEq, Nat.reduceAdd, Nat.reduceLeDiff, Nat.reduceMul, t3]
      exact ⟨l, s2, to, c2, by omega⟩
    | true =>
      simp only [go_sem, ↓reduceIte, Nat.reduceEqDiff, reduceCtorEq, Nat.reduceAdd, Nat.reduceLeDiff, Nat.reduceMul, t0, t3]
      have n2 := c2.2.2
      refine callD (f54 c2.1 (fun i hi => hw0 i (by omega)) hw) rfl fun r H3 ⟨z, e, cs3⟩ => ?_
      subst e
      have c3 := c2.trans cs3.cx
      have n3 := c3.2.2
      have s3 := s2.cs cs3 (own_notin to hid)
      obtain ⟨v5, H5, e1, e2, e3, e4, e5, e6, e7⟩ := s3.oneHv (m := m) z to n3 hw0 (by omega)
      unfold eHv at e1
      unfold vHv
      simp only [go_sem, ↓reduceIte, Nat.reduceEqDiff, reduceCtorEq, Nat.reduceAdd, Nat.reduceLeDiff, Nat.reduceMul, t0, t3]
      rw [e1]
      rotate_left
      · rfl
      · rfl
      · rfl
      simp only [go_sem, ↓reduceIte, Nat.reduceEqDiff, reduceCtorEq, Nat.reduceAdd, Nat.reduceLeDiff, Nat.reduceMul, t3]
      exact ⟨_, e2, e3, c3.own hid (fun j hj => e4 j (by omega) (own_notin to hj)) e5, by simp; omega⟩
theorem f25 {m : Md} {H : Hp} {v : Value} {cl : List Int} (hv : SlU H v cl) (hw : Wr m H) : Fun EE m 25 [v] H fun r H' => ∃ u l s n fl, r = .tuple #[u, .int .i64 s, .int .i64 n, .int .i64 fl] ∧ H <+: H' ∧ SlHv H' u l ∧ l.length ≤ 13 := by
  refine fun_f rfl rfl k25 (by simp [c25]) ?_
  have wid := hw H.length (Nat.le_refl _)
  simp only [go_sem, ↓reduceIte, Nat.reduceEqDiff, reduceCtorEq, Nat.reduceAdd, Nat.reduceLeDiff, Nat.reduceMul, c25]
  refine callD (f50 hv) rfl fun r H1 ⟨c1, p1, n1⟩ => ?_
  have p1 : H <+: H1 := p1
  simp only [go_sem, ↓reduceIte, Nat.reduceEqDiff, reduceCtorEq, Nat.reduceAdd, Nat.reduceLeDiff, Nat.reduceMul]
  refine callD (f51 c1 wid) rfl fun r2 H2 ⟨s, e, _, _, _, cs2⟩ => ?_
  subst e
  simp only [go_sem, ↓reduceIte, Nat.reduceEqDiff, reduceCtorEq, Nat.reduceAdd, Nat.reduceLeDiff, Nat.reduceMul]
  refine callD (f51 cs2.1 wid) rfl fun r3 H3 ⟨n, e, _, _, _, cs3⟩ => ?_
  subst e
  have c3 := cs2.trans cs3
  have n3 := c3.2.2
  have hlt := c1.lt
  have hl := sl_ints (H := H3) [0, 0, 1, 2, 4, 256] (by simp)
  have pn := List.prefix_append H3 [[(0 : Int), 0, 1, 2, 4, 256].map (Value.int .i64)]
  have cn := c3.cx.trans (CX.ofPre c3.1 pn)
  simp only [go_sem, ↓reduceIte, Nat.reduceEqDiff, reduceCtorEq, Nat.reduceAdd, Nat.reduceLeDiff, Nat.reduceMul, fillL, zeros_6]
  refine callD (f52 cn.1 wid hl (by simp) (by simp [idsOf]; omega)) rfl fun r4 H4 ⟨x, _, e, cs4⟩ => ?_
  subst e
  have c4 := cn.trans cs4.cx
  have n4 := c4.2.2
  have n1' := p1.length_le
  simp only [go_sem, ↓reduceIte, Nat.reduceEqDiff, reduceCtorEq, Nat.reduceAdd, Nat.reduceLeDiff, Nat.reduceMul]
  refine callD (f53 c4.1 (fun i hi => hw i (by omega)) wid) rfl fun u H5 ⟨l, s5, o5, c5, hl5⟩ => ?_
  (try simp only [go_sem, ↓reduceIte, Nat.reduceEqDiff, reduceCtorEq, Nat.reduceAdd, Nat.reduceLeDiff, Nat.reduceMul, s5.vc])
  exact ⟨u, l, s, n, x, rfl, (c4.trans c5).pre p1 (Nat.le_refl _), s5, hl5⟩
theorem f26 {m : Md} {H : Hp} {v : Value} {cl : List Int} (hv : SlU H v cl) (hw : Wr m H) : Fun EE m 26 [v] H fun r H' => ∃ u l z, r = .tuple #[u, vHv z] ∧ H <+: H' ∧ SlHv H' u l ∧ l.length ≤ 13 := by
  refine fun_f rfl rfl k26 (by simp [c26]) ?_
  have wid := hw H.length (Nat.le_refl _)
  simp only [go_sem, ↓reduceIte, Nat.reduceEqDiff, reduceCtorEq, Nat.reduceAdd, Nat.reduceLeDiff, Nat.reduceMul, c26]
  refine callD (f50 hv) rfl fun r H1 ⟨c1, p1, n1⟩ => ?_
  have p1 : H <+: H1 := p1
  have n1' := p1.length_le
  have hcp := c1.1
  subst hcp
  simp only [go_sem, ↓reduceIte, Nat.reduceEqDiff, reduceCtorEq, Nat.reduceAdd, Nat.reduceLeDiff, Nat.reduceMul]
  refine callD (f54 c1 (fun i hi => hw i (by have : H1.length ≤ i := hi; omega)) wid) rfl fun r2 H2 ⟨z, e, cs2⟩ => ?_
  subst e
  have n2 := cs2.2.2
  have n2 : H2.length = H1.length := n2
  unfold vHv
  simp only [go_sem, ↓reduceIte, Nat.reduceEqDiff, reduceCtorEq, Nat.reduceAdd, Nat.reduceLeDiff, Nat.reduceMul]
  refine go_draw ?_
  simp only [go_sem, ↓reduceIte, Nat.reduceEqDiff, reduceCtorEq, Nat.reduceAdd, Nat.reduceLeDiff, Nat.reduceMul]
  refine callT_arg (by rfl) (fun m2 h1 h2 h3 => f53 cs2.1 h1 (h2 _ (by simp [idsOf]) wid)) rfl (fun i hi => hw i (by omega)) fun u H5 ⟨l, s5, o5, c5, hl5⟩ => ?_
  simp only [go_sem, ↓reduceIte, Nat.reduceEqDiff, reduceCtorEq, Nat.reduceAdd, Nat.reduceLeDiff, Nat.reduceMul, s5.vc]
  exact ⟨by rfl, u, l, z, rfl, (cs2.cx.trans c5).pre p1 (Nat.le_refl _), s5, hl5⟩
theorem f27 {m : Md} {H : Hp} {v : Value} {cl : List Int} (hv : SlU H v cl) (hw : Wr m H) : Fun EE m 27 [v] H fun r H' => ∃ u l n, r = .tuple #[u, .int .i64 n] ∧ H <+: H' ∧ SlHv H' u l ∧ l.length ≤ 13 := by
  refine fun_f rfl rfl k27 (by simp [c27]) ?_
  have wid := hw H.length (Nat.le_refl _)
  simp only [go_sem, ↓reduceIte, Nat.reduceEqDiff, reduceCtorEq, Nat.reduceAdd, Nat.reduceLeDiff, Nat.reduceMul, c27]
  refine callD (f50 hv) rfl fun r H1 ⟨c1, p1, n1⟩ => ?_
  have p1 : H <+: H1 := p1
  have n1' := p1.length_le
  simp only [go_sem, ↓reduceIte, Nat.reduceEqDiff, reduceCtorEq, Nat.reduceAdd, Nat.reduceLeDiff, Nat.reduceMul]
  refine callD (f51 c1 wid) rfl fun r2 H2 ⟨n, e, _, _, _, cs2⟩ => ?_
  subst e
  have n2 : H2.length = H1.length := cs2.2.2
  simp only [go_sem, ↓reduceIte, Nat.reduceEqDiff, reduceCtorEq, Nat.reduceAdd, Nat.reduceLeDiff, Nat.reduceMul]
  refine callD (f53 cs2.1 (fun i hi => hw i (by have : H2.length ≤ i := hi; omega)) wid) rfl fun u H5 ⟨l, s5, o5, c5, hl5⟩ => ?_
  (try simp only [go_sem, ↓reduceIte, Nat.reduceEqDiff, reduceCtorEq, Nat.reduceAdd, Nat.reduceLeDiff, Nat.reduceMul, s5.vc])
  exact ⟨u, l, n, rfl, (cs2.cx.trans c5).pre p1 (Nat.le_refl _), s5, hl5⟩
end Go.Proofs.Ytceilcdhflcbpaa.Ev

/- The law Haves. -/
namespace Go.Proofs.Ytceilcdhflcbpaa.Ev
set_option linter.all false
open Go
set_option maxRecDepth 4000

theorem purge_in {l : List Hv} {k : Int} {z : Hv} (h : z ∈ purgeR l k) : k ≤ z.2.2.1 := by
  unfold purgeR at h
  split at h
  · have := (List.mem_filter.1 h).2
    exact of_decide_eq_true this
  · cases h
theorem law7 {m : Md} {H : Hp} {v : Value} {cl : List Int} (hv : SlU H v cl) (hw : Wr m H) : Fun EE m 7 [v] H fun r _ => r = .bool true := by
  refine fun_f rfl rfl k7 (by simp [c7]) ?_
  have a24 := fun {m draw s d ts Q} => callT_at (m := m) (draw := draw) (s := s) (d := d) (ts := ts) (Q := Q) (f24 hv)
  simp only [go_sem, ↓reduceIte, Nat.reduceEqDiff, reduceCtorEq, Nat.reduceAdd, Nat.reduceLeDiff, Nat.reduceMul, c7, a24, hw]
  refine brT.intro (fun q0 => ?_) (fun q0 => ?_) <;> simp only [go_sem, ↓reduceIte, Nat.reduceEqDiff, reduceCtorEq, Nat.reduceAdd, Nat.reduceLeDiff, Nat.reduceMul]
  refine callT_to (fun m' h => f25 hv h) rfl hw fun r1 H1 ⟨u, l, s, n, fl, e, p1, s1, hl1⟩ => ?_
  subst e
  have p1 : H <+: H1 := p1
  have w1 := hw.pre p1
  have d1 : ∀ n : Int, decide (n = n) = true := fun n => by simp
  have bb : ∀ b : Bool, decide (b = b) = true := fun b => by simp
  have a15 := fun {m draw t d ts Q} => callT_at (m := m) (draw := draw) (s := t) (d := d) (ts := ts) (Q := Q) (f15 (s := s) (n := n) (fl := fl) s1)
  have a14 := fun {m draw t d ts Q} => callT_at (m := m) (draw := draw) (s := t) (d := d) (ts := ts) (Q := Q) (f14 (s := s) (n := n) (fl := fl) s1)
  unfold vHv at a15 a14
  simp only [go_sem, ↓reduceIte, Nat.reduceEqDiff, reduceCtorEq, Nat.reduceAdd, Nat.reduceLeDiff, Nat.reduceMul, List.getElem?_toArray, ofV, a15, a14, w1, beqK, bb, d1]
  refine callT_to (fun m' h => f26 (hv.pre p1) h) rfl w1 fun r2 H2 ⟨u2, M, z, e, p2, s2, hl2⟩ => ?_
  subst e
  have p2 : H1 <+: H2 := p2
  have w2 := w1.pre p2
  unfold vHv
  simp only [go_sem, ↓reduceIte, Nat.reduceEqDiff, reduceCtorEq, Nat.reduceAdd, Nat.reduceLeDiff, Nat.reduceMul, List.getElem?_toArray, ofV, s2.vc]
  have hput : ∀ {Ha Hb : Hp} {r : Value}, PutR Ha M z r Hb → ∃ u, r = .tuple #[u, .bool (putR M z).2] ∧ FreshS eHv 5 Ha u Hb (putR M z).1 := fun h => h
  refine callT_to (fun m' h => f23 (h := z) s2 h) rfl w2 fun r3 H3 h3 => ?_
  obtain ⟨x, e, p3, sx, ox⟩ := hput h3
  subst e
  have p3 : H2 <+: H3 := p3
  have w3 := w2.pre p3
  have M3 := s2.pre p3
  simp only [go_sem, ↓reduceIte, Nat.reduceEqDiff, reduceCtorEq, Nat.reduceAdd, Nat.reduceLeDiff, Nat.reduceMul, List.getElem?_toArray, ofV]
  refine callT_to (fun m' h => f21 (h := z) M3 h) rfl w3 fun r4 H4 h4 => ?_
  obtain ⟨y, e, p4, sy, oy⟩ := hput h4
  subst e
  have p4 : H3 <+: H4 := p4
  have w4 := w3.pre p4
  have M4 := M3.pre p4
  have x4 := sx.pre p4
  have a10 := fun {m draw t d ts Q} => callT_at (m := m) (draw := draw) (s := t) (d := d) (ts := ts) (Q := Q) (f10 M4)
  have b10 := fun {m draw t d ts Q} => callT_at (m := m) (draw := draw) (s := t) (d := d) (ts := ts) (Q := Q) (f10 x4)
  simp only [go_sem, ↓reduceIte, Nat.reduceEqDiff, reduceCtorEq, Nat.reduceAdd, Nat.reduceLeDiff, Nat.reduceMul, List.getElem?_toArray, ofV, beqK, bb, a10, w4]
  cases hvM : hvOk M with
  | false =>
    rw [putR_no hvM] at x4
    have hno := putR_no (h := z) hvM
    simp only [go_sem, ↓reduceIte, Nat.reduceEqDiff, reduceCtorEq, Nat.reduceAdd, Nat.reduceLeDiff, Nat.reduceMul, x4.len, hno]
    have e0 : decide (((0 : Nat) : Int) = 0) = true := rfl
    (try simp only [go_sem, ↓reduceIte, Nat.reduceEqDiff, reduceCtorEq, Nat.reduceAdd, Nat.reduceLeDiff, Nat.reduceMul, hno, e0])
  | true =>
  obtain ⟨hx, hsame, hzok⟩ := putR_ok (h := z) hvM
  have hlen := putR_len M z
  generalize hT : (putR M z).1 = T at *
  generalize hok : (putR M z).2 = ok at *
  rw [hx] at b10
  have vv := (hv.pre p1).pre (p2.trans (p3.trans p4))
  have cont : ok = true ∨ (ok = false ∧ T = M) := by
    cases ok with
    | true => exact .inl rfl
    | false => exact .inr ⟨rfl, hsame rfl⟩
  simp only [go_sem, ↓reduceIte, Nat.reduceEqDiff, reduceCtorEq, Nat.reduceAdd, Nat.reduceLeDiff, Nat.reduceMul, b10, w4]
  refine brT_split 2 3 (fun t => t.H = H4 ∧ t.ρ 0 = .val v ∧ t.ρ 2 = .val (.bool false) ∧ t.ρ 4 = .val (.int .i64 s) ∧ t.ρ 6 = .val (.int .i64 fl) ∧ t.ρ 11 = .val u2 ∧ (∃ g, t.ρ 12 = .bx g (eHv z)) ∧ t.ρ 13 = .val x ∧ t.ρ 14 = .val (.bool ok)) (fun q => ?_) (fun q => ?_) (by rfl) ?_
  · subst q
    simp only [go_sem, ↓reduceIte, Nat.reduceEqDiff, reduceCtorEq, Nat.reduceAdd, Nat.reduceLeDiff, Nat.reduceMul]
    exact ⟨_, rfl⟩
  · have hTM : T = M := by
      rcases cont with h | h
      · rw [q] at h; cases h
      · exact h.2
    subst q
    simp only [go_sem, ↓reduceIte, Nat.reduceEqDiff, reduceCtorEq, Nat.reduceAdd, Nat.reduceLeDiff, Nat.reduceMul, x4.len, M4.len, hTM, d1]
    exact ⟨_, rfl⟩
  rintro t ⟨tH, t0, t2, t4, t6, t11, ⟨gz, t12⟩, t13, t14⟩
  unfold eHv at t12
  simp only [go_sem, ↓reduceIte, Nat.reduceEqDiff, reduceCtorEq, Nat.reduceAdd, Nat.reduceLeDiff, Nat.reduceMul, t0]
  refine callT_to (fun m' h => f27 vv h) tH w4 fun r5 H5 ⟨pu, p, k, e, p5, sp, hlp⟩ => ?_
  subst e
  have w5 := w4.pre p5
  simp only [go_sem, ↓reduceIte, Nat.reduceEqDiff, reduceCtorEq, Nat.reduceAdd, Nat.reduceLeDiff, Nat.reduceMul, List.getElem?_toArray, ofV]
  refine callT_to (fun m' h => f18 (k := k) sp h) rfl w5 fun qv H6 ⟨p6, sq, oq⟩ => ?_
  have p6 : H5 <+: H6 := p6
  have w6 := w5.pre p6
  have sp6 := sp.pre p6
  have M6 := (M4.pre p5).pre p6
  have x6 := (x4.pre p5).pre p6
  have hql : (purgeR p k).length ≤ 13 := by
    unfold purgeR
    split
    · have := List.length_filter_le (fun z : Hv => decide (z.2.2.1 ≥ k)) p; omega
    · simp
  simp only [go_sem, ↓reduceIte, Nat.reduceEqDiff, reduceCtorEq, Nat.reduceAdd, Nat.reduceLeDiff, Nat.reduceMul, t2, t4, t6, t11, t12, t13, t14]
  refine go_for (purgeR p k).length (fun i c => c.H = H6 ∧ c.ρ 2 = .val (.bool false) ∧ c.ρ 4 = .val (.int .i64 s) ∧ c.ρ 6 = .val (.int .i64 fl) ∧ c.ρ 11 = .val u2 ∧ c.ρ 12 = .bx gz (eHv z) ∧ c.ρ 13 = .val x ∧ c.ρ 14 = .val (.bool ok) ∧ c.ρ 17 = .val pu ∧ c.ρ 18 = .val (.int .i64 k) ∧ c.ρ 19 = .val qv ∧ c.ρ 20 = .val (.int .i64 i))
    (fun c => c.H = H6 ∧ c.ρ 2 = .val (.bool false) ∧ c.ρ 4 = .val (.int .i64 s) ∧ c.ρ 6 = .val (.int .i64 fl) ∧ c.ρ 11 = .val u2 ∧ c.ρ 12 = .bx gz (eHv z) ∧ c.ρ 13 = .val x ∧ c.ρ 14 = .val (.bool ok) ∧ c.ρ 17 = .val pu ∧ c.ρ 18 = .val (.int .i64 k) ∧ c.ρ 19 = .val qv) ?_ ?_ ?_
  · exact ⟨rfl, by simp [upd, t2], by simp [upd, t4], by simp [upd, t6], by simp [upd, t11], by simp [upd, t12, eHv], by simp [upd, t13], by simp [upd, t14], by simp [upd], by simp [upd], by simp [upd], by simp [upd]⟩
  · clear t2 t4 t6 t11 t12 t13 t14
    rintro i c hi ⟨cH, t2, t4, t6, t11, t12, t13, t14, t17, t18, t19, t20⟩
    simp only [go_sem, ↓reduceIte, Nat.reduceEqDiff, reduceCtorEq, Nat.reduceAdd, Nat.reduceLeDiff, Nat.reduceMul, t2, t4, t6, t11, t12, t13, t14, t17, t18, t19, t20, cH, sq.len]
    cases q1 : decide ((i : Int) < ((purgeR p k).length : Int)) <;> simp only [go_sem, ↓reduceIte, Nat.reduceEqDiff, reduceCtorEq, Nat.reduceAdd, Nat.reduceLeDiff, Nat.reduceMul, t2, t4, t6, t11, t12, t13, t14, t17, t18, t19, t20, q1]
    have hil : i < (purgeR p k).length := by have := of_decide_eq_true q1; omega
    have w1' := wrap64 ((i : Int) + 1) (by omega) (by omega)
    obtain ⟨id, pp, o, ho, hr, hpp, hia⟩ := sq.elem (List.getElem?_eq_getElem hil)
    have hr : (o.drop pp).take 5 = eHv (purgeR p k)[i] := hr
    have g2 : o[pp + 2]? = some (.int .i64 (purgeR p k)[i].2.2.1) := by simpa [eHv] using getElem?_of_take hr (j := 2) (by omega)
    have hd : decide ((purgeR p k)[i].2.2.1 < k) = false := decide_eq_false (by have := purge_in (List.getElem_mem hil); omega)
    simp only [go_sem, ↓reduceIte, Nat.reduceEqDiff, reduceCtorEq, Nat.reduceAdd, Nat.reduceLeDiff, Nat.reduceMul, t2, t4, t6, t11, t12, t13, t14, t17, t18, t19, t20, cH, hia, ho, g2, hd, w1']
    exact ⟨hil, by simp⟩
  · clear t2 t4 t6 t11 t12 t13 t14
    rintro c ⟨cH, t2, t4, t6, t11, t12, t13, t14, t17, t18, t19⟩
    simp only [go_sem, ↓reduceIte, Nat.reduceEqDiff, reduceCtorEq, Nat.reduceAdd, Nat.reduceLeDiff, Nat.reduceMul, t2, t4, t6, t11, t12, t13, t14, t17, t18, t19]
    refine go_for 3 (fun i c => c.H = H6 ∧ c.ρ 2 = .val (.bool false) ∧ c.ρ 4 = .val (.int .i64 s) ∧ c.ρ 6 = .val (.int .i64 fl) ∧ c.ρ 11 = .val u2 ∧ c.ρ 12 = .bx gz (eHv z) ∧ c.ρ 13 = .val x ∧ c.ρ 14 = .val (.bool ok) ∧ c.ρ 17 = .val pu ∧ c.ρ 18 = .val (.int .i64 k) ∧ c.ρ 19 = .val qv ∧ c.ρ 21 = .val (.int .i64 i))
      (fun c => c.H = H6 ∧ c.ρ 4 = .val (.int .i64 s) ∧ c.ρ 6 = .val (.int .i64 fl) ∧ c.ρ 17 = .val pu ∧ c.ρ 18 = .val (.int .i64 k) ∧ c.ρ 19 = .val qv) ?_ ?_ ?_
    · exact ⟨cH, by simp [upd, t2], by simp [upd, t4], by simp [upd, t6], by simp [upd, t11], by simp [upd, t12], by simp [upd, t13], by simp [upd, t14], by simp [upd, t17], by simp [upd, t18], by simp [upd, t19], by simp [upd]⟩
    · clear t2 t4 t6 t11 t12 t13 t14 t17 t18 t19 cH
      rintro i c hi ⟨cH, t2, t4, t6, t11, t12, t13, t14, t17, t18, t19, t21⟩
      unfold eHv at t12
      simp only [go_sem, ↓reduceIte, Nat.reduceEqDiff, reduceCtorEq, Nat.reduceAdd, Nat.reduceLeDiff, Nat.reduceMul, t2, t4, t6, t11, t12, t13, t14, t17, t18, t19, t21]
      cases q1 : decide ((i : Int) < 3) <;> simp only [go_sem, ↓reduceIte, Nat.reduceEqDiff, reduceCtorEq, Nat.reduceAdd, Nat.reduceLeDiff, Nat.reduceMul, t2, t4, t6, t11, t12, t13, t14, t17, t18, t19, t21, q1]
      · exact cH
      cases ok with
      | false =>
        simp only [go_sem, ↓reduceIte, Nat.reduceEqDiff, reduceCtorEq, Nat.reduceAdd, Nat.reduceLeDiff, Nat.reduceMul, t2, t4, t6, t11, t12, t13, t14, t17, t18, t19, t21]
        exact cH
      | true =>
        have hi3 : i < 3 := by have := of_decide_eq_true q1; omega
        have w1' := wrap64 ((i : Int) + 1) (by omega) (by omega)
        have m14 := fun {m draw t d ts Q} => callT_at (m := m) (draw := draw) (s := t) (d := d) (ts := ts) (Q := Q) (f14 (s := (i : Int)) (n := z.2.1) (fl := 0) M6)
        have x15 := fun {m draw t d ts Q} => callT_at (m := m) (draw := draw) (s := t) (d := d) (ts := ts) (Q := Q) (f15 (s := (i : Int)) (n := z.2.1) (fl := 0) x6)
        have hbp : z.2.2.2.1.toNat.testBit 4 = false → (bestR M i z.2.1 0).2 = true → (bestR T i z.2.1 0).2 = true ∧ (bestR M i z.2.1 0).1.2.2.1 ≤ (bestR T i z.2.1 0).1.2.2.1 := fun h1 h2 => by
          have := best_put (l := M) (h := z) (s := (i : Int)) hok h1 h2
          rw [hT] at this
          exact this
        unfold vHv at m14 x15
        simp only [go_sem, ↓reduceIte, Nat.reduceEqDiff, reduceCtorEq, Nat.reduceAdd, Nat.reduceLeDiff, Nat.reduceMul, t2, t4, t6, t11, t12, t13, t14, t17, t18, t19, t21, List.getElem?_toArray, ofV, m14, x15, w6, cH]
        obtain ⟨f, hf, hf2⟩ := hOk_flags (hzok rfl)
        have n16 : ¬ ((16 : Int) = 0) := by decide
        have n2 : ¬ ((2 : Int) = 0) := by decide
        obtain ⟨q, hq⟩ : ∃ q : Nat, q = f / 16 := ⟨_, rfl⟩
        have e3 : Int.tdiv (f : Int) 16 = (q : Int) := by rw [hq]; rfl
        have e4 : IntKind.i64.wrap (q : Int) = (q : Int) := wrap64 _ (by omega) (by omega)
        have e5 : Int.tmod (q : Int) 2 = ((q % 2 : Nat) : Int) := rfl
        have e6 : decide (((q % 2 : Nat) : Int) = 0) = !f.testBit 4 := by
          rw [Nat.testBit_eq_decide_div_mod_eq, show (2 : Nat) ^ 4 = 16 from rfl, ← hq]
          by_cases h : q % 2 = 1
          · rw [decide_eq_true h, decide_eq_false (by omega)]; rfl
          · rw [decide_eq_false h, decide_eq_true (by omega)]; rfl
        rw [hf, Int.toNat_natCast] at hbp
        cases hwas : (bestR M (i : Int) z.2.1 0).2
        · simp only [go_sem, ↓reduceIte, Nat.reduceEqDiff, reduceCtorEq, Nat.reduceAdd, Nat.reduceLeDiff, Nat.reduceMul, t2, t4, t6, t11, t12, t13, t14, t17, t18, t19, t21, hwas, w1', cH]
          exact ⟨hi3, rfl, by simp⟩
        simp only [go_sem, ↓reduceIte, Nat.reduceEqDiff, reduceCtorEq, Nat.reduceAdd, Nat.reduceLeDiff, Nat.reduceMul, hwas]
        cases hb4 : f.testBit 4
        · obtain ⟨h1, h2⟩ := hbp hb4 hwas
          have h3 : decide ((bestR T (i : Int) z.2.1 0).1.2.2.1 < (bestR M (i : Int) z.2.1 0).1.2.2.1) = false := decide_eq_false (by omega)
          simp only [go_sem, ↓reduceIte, Nat.reduceEqDiff, reduceCtorEq, Nat.reduceAdd, Nat.reduceLeDiff, Nat.reduceMul, t2, t4, t6, t11, t12, t13, t14, t17, t18, t19, t21, h1, h3, w1', cH]
          exact ⟨hi3, rfl, by simp⟩
        · rw [hb4] at e6
          have e6 : decide (((q % 2 : Nat) : Int) = 0) = false := e6
          cases hth : (bestR T (i : Int) z.2.1 0).2
          · simp only [go_sem, ↓reduceIte, Nat.reduceEqDiff, reduceCtorEq, Nat.reduceAdd, Nat.reduceLeDiff, Nat.reduceMul, t2, t4, t6, t11, t12, t13, t14, t17, t18, t19, t21, hth, hf, n16, n2, e3, e4, e5, e6, w1', cH]
            exact ⟨hi3, by unfold eHv; rw [hf], by simp⟩
          cases hlt : decide ((bestR T (i : Int) z.2.1 0).1.2.2.1 < (bestR M (i : Int) z.2.1 0).1.2.2.1)
          · simp only [go_sem, ↓reduceIte, Nat.reduceEqDiff, reduceCtorEq, Nat.reduceAdd, Nat.reduceLeDiff, Nat.reduceMul, t2, t4, t6, t11, t12, t13, t14, t17, t18, t19, t21, hth, hlt, w1', cH]
            exact ⟨hi3, rfl, by simp⟩
          · simp only [go_sem, ↓reduceIte, Nat.reduceEqDiff, reduceCtorEq, Nat.reduceAdd, Nat.reduceLeDiff, Nat.reduceMul, t2, t4, t6, t11, t12, t13, t14, t17, t18, t19, t21, hth, hlt, hf, n16, n2, e3, e4, e5, e6, w1', cH]
            exact ⟨hi3, by unfold eHv; rw [hf], by simp⟩
    · clear t2 t4 t6 t11 t12 t13 t14 t17 t18 t19 cH
      rintro c ⟨cH, t4, t6, t17, t18, t19⟩
      have pa := fun {m draw t d ts Q} => callT_at (m := m) (draw := draw) (s := t) (d := d) (ts := ts) (Q := Q) (f15 (s := s) (n := k) (fl := fl) sp6)
      have qa := fun {m draw t d ts Q} => callT_at (m := m) (draw := draw) (s := t) (d := d) (ts := ts) (Q := Q) (f15 (s := s) (n := k) (fl := fl) sq)
      rw [best_purge] at qa
      unfold vHv at pa qa
      simp only [go_sem, ↓reduceIte, Nat.reduceEqDiff, reduceCtorEq, Nat.reduceAdd, Nat.reduceLeDiff, Nat.reduceMul, t4, t6, t17, t18, t19, List.getElem?_toArray, ofV, pa, qa, w6, cH, beqK, bb, d1]
end Go.Proofs.Ytceilcdhflcbpaa.Ev

/- slices.Sort in this program: the shelf's contract. -/
namespace Go.Proofs.Ytceilcdhflcbpaa.Ev
set_option linter.all false
open Go Go.Shelf
def lays189_ren : Go.Shelf.Ren := ⟨fun | 189 => 99 | 125 => 102 | 257 => 101 | 128 => 112 | 129 => 113 | 294 => 103 | 295 => 104 | 296 => 105 | 297 => 106 | 298 => 107 | 299 => 108 | 216 => 109 | 300 => 110 | 301 => 111 | 328 => 114 | 329 => 115 | 330 => 116 | 331 => 117 | 332 => 118 | 215 => 119 | 343 => 120 | n => n, fun | 28 => 59 | 3 => 3 | 46 => 100 | 0 => 0 | 51 => 117 | 53 => 119 | 4 => 4 | 183 => 110 | 182 => 109 | 131 => 114 | 5 => 5 | 9 => 9 | 218 => 120 | 222 => 124 | 228 => 126 | 229 => 127 | n => n, fun | n => n⟩
theorem lays189 : Go.Proofs.Lays.n189 Try.prog lays189_ren where
  mixed := by kernel_rfl
  f125 := Try.func102.trans (congrArg some (by kernel_rfl))
  f128 := Try.func112.trans (congrArg some (by kernel_rfl))
  f129 := Try.func113.trans (congrArg some (by kernel_rfl))
  f189 := Try.func99.trans (congrArg some (by kernel_rfl))
  f215 := Try.func119.trans (congrArg some (by kernel_rfl))
  f216 := Try.func109.trans (congrArg some (by kernel_rfl))
  f257 := Try.func101.trans (congrArg some (by kernel_rfl))
  f294 := Try.func103.trans (congrArg some (by kernel_rfl))
  f295 := Try.func104.trans (congrArg some (by kernel_rfl))
  f296 := Try.func105.trans (congrArg some (by kernel_rfl))
  f297 := Try.func106.trans (congrArg some (by kernel_rfl))
  f298 := Try.func107.trans (congrArg some (by kernel_rfl))
  f299 := Try.func108.trans (congrArg some (by kernel_rfl))
  f300 := Try.func110.trans (congrArg some (by kernel_rfl))
  f301 := Try.func111.trans (congrArg some (by kernel_rfl))
  f328 := Try.func114.trans (congrArg some (by kernel_rfl))
  f329 := Try.func115.trans (congrArg some (by kernel_rfl))
  f330 := Try.func116.trans (congrArg some (by kernel_rfl))
  f331 := Try.func117.trans (congrArg some (by kernel_rfl))
  f332 := Try.func118.trans (congrArg some (by kernel_rfl))
  f343 := Try.func120.trans (congrArg some (by kernel_rfl))
  t0 := Try.underlying0
  a0 := Try.isAgg0
  z0 := Try.sizeOf0
  v0 := Try.zeroValue0
  t3 := Try.underlying3
  a3 := Try.isAgg3
  z3 := Try.sizeOf3
  v3 := Try.zeroValue3
  t4 := Try.underlying4
  a4 := Try.isAgg4
  z4 := Try.sizeOf4
  v4 := Try.zeroValue4
  t5 := Try.underlying5
  a5 := Try.isAgg5
  z5 := Try.sizeOf5
  v5 := Try.zeroValue5
  t9 := Try.underlying9
  a9 := Try.isAgg9
  z9 := Try.sizeOf9
  v9 := Try.zeroValue9
  t28 := Try.underlying59
  a28 := Try.isAgg59
  z28 := Try.sizeOf59
  v28 := Try.zeroValue59
  t46 := Try.underlying100
  a46 := Try.isAgg100
  z46 := Try.sizeOf100
  v46 := Try.zeroValue100
  t51 := Try.underlying117
  a51 := Try.isAgg117
  z51 := Try.sizeOf117
  v51 := Try.zeroValue117
  t53 := Try.underlying119
  a53 := Try.isAgg119
  z53 := Try.sizeOf119
  v53 := Try.zeroValue119
  t131 := Try.underlying114
  a131 := Try.isAgg114
  z131 := Try.sizeOf114
  v131 := Try.zeroValue114
  t182 := Try.underlying109
  a182 := Try.isAgg109
  z182 := Try.sizeOf109
  v182 := Try.zeroValue109
  t183 := Try.underlying110
  a183 := Try.isAgg110
  z183 := Try.sizeOf110
  v183 := Try.zeroValue110
  t218 := Try.underlying120
  a218 := Try.isAgg120
  z218 := Try.sizeOf120
  v218 := Try.zeroValue120
  t222 := Try.underlying124
  a222 := Try.isAgg124
  z222 := Try.sizeOf124
  v222 := Try.zeroValue124
  t228 := Try.underlying126
  a228 := Try.isAgg126
  z228 := Try.sizeOf126
  v228 := Try.zeroValue126
  t229 := Try.underlying127
  a229 := Try.isAgg127
  z229 := Try.sizeOf127
  v229 := Try.zeroValue127
theorem sortOk : SortOk Try.prog 99 :=
  ⟨⟨Try.f99, Try.func99, rfl, by kernel_rfl⟩, fun blk off cap zs w h hb hl => Any.slices_Sort_int lays189 blk off cap zs w h hb hl, fun p cap w => Any.slices_Sort_int_none lays189 p cap w⟩
end Go.Proofs.Ytceilcdhflcbpaa.Ev

/- The calls that are told by themselves: slices.Sort alone. -/
namespace Go.Proofs.Ytceilcdhflcbpaa.Ev
set_option linter.all false
open Go
theorem prim_EE : ∀ f p, EE.prim f = some p → f = 99 ∧ p = sortP := fun f p h => by
  have h : (if f = 99 then some sortP else none) = some p := h
  split at h
  · rename_i e; exact ⟨e, (Option.some.inj h).symm⟩
  · cases h
end Go.Proofs.Ytceilcdhflcbpaa.Ev
