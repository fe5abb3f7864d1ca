/- Texts of this proof, laid one behind the other: what each shows stands at its head. -/
import Derived.Test.YtpdkgbamakileaaB3
/- Numbers as bytes: the program's and the reference's. -/
namespace Go.Proofs.Ytpdkgbamakileaa.Ev
set_option linter.all false
open Go
set_option maxRecDepth 4000

theorem f90 {H : Hp} {a b c : Int} : Scal EE 90 [.int .i64 a, .int .i64 b, .int .i64 c] H (.bool (decide (a ≥ b) && decide (a ≤ c))) := by
  refine scal_ok rfl rfl k90 (by simp [c90]) rfl fun m hw => ?_
  simp only [go_nil, go_blk, go_skip, go_ret, go_exit, go_seq, go_block, go_reg, go_r0, go_r, go_d0, go_d, go_e0, go_e, box2, Option.isSome_some, Nat.le_refl, go_cond, go_o, go_g, aft_some, cnd_bool, grd_bool, grd_tup, brT_true, brT_false, brT_not, thr_exit, thr_c, thr_nil, stp, stepK, movK, mv1, ex, exv, exvs, upd_some, upd_none, ini, St.val, binK, binV, ofV, pickK, unK, unV, beqK, beq_true, beq_false, if_true, if_false, List.getElem?_cons_zero, List.getElem?_cons_succ, ↓reduceIte, Nat.reduceEqDiff, reduceCtorEq, loadK, adr, deref, Ad.fv, Ad.live, fadrK, List.length_cons, List.length_nil, List.drop_zero, List.drop_succ_cons, List.take_succ_cons, List.take_zero, Nat.reduceAdd, Nat.reduceLeDiff, Nat.zero_add, Nat.add_zero, aeqK, agEq, scEq, boxVK, newVK, exc, vc_agg, vc_int, vc_bool, vc_str, vc_ptr, vc_sl, vc_fn, boxOf, adInf, List.reverse_cons, List.reverse_nil, List.nil_append, List.cons_append, extK, Bool.and_true, Bool.true_and, Bool.not_true, Bool.not_false, resT, resVs, resV, true_and, and_true, storeK, spl_nil, spl_z, spl_1, spl_2, spl_3, spl_4, spl_5, spl_6, spl_7, spl_8, scal_int, scal_bool, scal_str, scal_nil, implies_true, Bool.and_self, Post_ret, Post_normal, PostS_ret, PostS_normal, retT_true, retT_false, flat_bool, flat_int, flat_str, List.take_length, decide_true, decide_false, Option.some.injEq, Value.bool.injEq, Value.int.injEq, Bool.false_and, Bool.and_false, not_false_eq_true, not_true_eq_false, toIntK, List.length_set, Nat.reduceMul, Bool.not_eq_true, Bool.not_eq_false, List.all_cons, List.all_nil, exps, fillL, buildK, strK, nilcK, fnK, callVT, List.size_toArray, List.append_nil, List.singleton_append, boxOK, newOK, scal_nil, List.isEmpty_nil, List.isEmpty_cons, mkVK, mkOK, mkCells, zeros_0, zeros_1, zeros_2, zeros_3, zeros_4, List.map_cons, List.map_nil, c90]
  refine brT.intro (fun h => ?_) (fun h => ?_) <;> simp only [go_nil, go_blk, go_skip, go_ret, go_exit, go_seq, go_block, go_reg, go_r0, go_r, go_d0, go_d, go_e0, go_e, box2, Option.isSome_some, Nat.le_refl, go_cond, go_o, go_g, aft_some, cnd_bool, grd_bool, grd_tup, brT_true, brT_false, brT_not, thr_exit, thr_c, thr_nil, stp, stepK, movK, mv1, ex, exv, exvs, upd_some, upd_none, ini, St.val, binK, binV, ofV, pickK, unK, unV, beqK, beq_true, beq_false, if_true, if_false, List.getElem?_cons_zero, List.getElem?_cons_succ, ↓reduceIte, Nat.reduceEqDiff, reduceCtorEq, loadK, adr, deref, Ad.fv, Ad.live, fadrK, List.length_cons, List.length_nil, List.drop_zero, List.drop_succ_cons, List.take_succ_cons, List.take_zero, Nat.reduceAdd, Nat.reduceLeDiff, Nat.zero_add, Nat.add_zero, aeqK, agEq, scEq, boxVK, newVK, exc, vc_agg, vc_int, vc_bool, vc_str, vc_ptr, vc_sl, vc_fn, boxOf, adInf, List.reverse_cons, List.reverse_nil, List.nil_append, List.cons_append, extK, Bool.and_true, Bool.true_and, Bool.not_true, Bool.not_false, resT, resVs, resV, true_and, and_true, storeK, spl_nil, spl_z, spl_1, spl_2, spl_3, spl_4, spl_5, spl_6, spl_7, spl_8, scal_int, scal_bool, scal_str, scal_nil, implies_true, Bool.and_self, Post_ret, Post_normal, PostS_ret, PostS_normal, retT_true, retT_false, flat_bool, flat_int, flat_str, List.take_length, decide_true, decide_false, Option.some.injEq, Value.bool.injEq, Value.int.injEq, Bool.false_and, Bool.and_false, not_false_eq_true, not_true_eq_false, toIntK, List.length_set, Nat.reduceMul, Bool.not_eq_true, Bool.not_eq_false, List.all_cons, List.all_nil, exps, fillL, buildK, strK, nilcK, fnK, callVT, List.size_toArray, List.append_nil, List.singleton_append, boxOK, newOK, scal_nil, List.isEmpty_nil, List.isEmpty_cons, mkVK, mkOK, mkCells, zeros_0, zeros_1, zeros_2, zeros_3, zeros_4, List.map_cons, List.map_nil, h]
theorem c90' {m : Md} {draw : Bool} {s : St} {d : Option Nat} {ts : List Tk} {Q : Ex → St → Prop} {a b c : Int} (hw : Wr m s.H) :
    callT EE m draw 90 (some [.int .i64 a, .int .i64 b, .int .i64 c]) s d ts Q = go EE m ts { s with ρ := upd s.ρ d (.val (.bool (decide (a ≥ b) && decide (a ≤ c)))) } Q := callT_at f90 rfl hw
theorem f112 {H : Hp} {a b c : Int} : Scal EE 112 [.int .i64 a, .int .i64 b, .int .i64 c] H (.bool (decide (a ≥ b) && decide (a ≤ c))) := by
  refine scal_ok rfl rfl k112 (by simp [c112]) rfl fun m hw => ?_
  simp only [go_nil, go_blk, go_skip, go_ret, go_exit, go_seq, go_block, go_reg, go_r0, go_r, go_d0, go_d, go_e0, go_e, box2, Option.isSome_some, Nat.le_refl, go_cond, go_o, go_g, aft_some, cnd_bool, grd_bool, grd_tup, brT_true, brT_false, brT_not, thr_exit, thr_c, thr_nil, stp, stepK, movK, mv1, ex, exv, exvs, upd_some, upd_none, ini, St.val, binK, binV, ofV, pickK, unK, unV, beqK, beq_true, beq_false, if_true, if_false, List.getElem?_cons_zero, List.getElem?_cons_succ, ↓reduceIte, Nat.reduceEqDiff, reduceCtorEq, loadK, adr, deref, Ad.fv, Ad.live, fadrK, List.length_cons, List.length_nil, List.drop_zero, List.drop_succ_cons, List.take_succ_cons, List.take_zero, Nat.reduceAdd, Nat.reduceLeDiff, Nat.zero_add, Nat.add_zero, aeqK, agEq, scEq, boxVK, newVK, exc, vc_agg, vc_int, vc_bool, vc_str, vc_ptr, vc_sl, vc_fn, boxOf, adInf, List.reverse_cons, List.reverse_nil, List.nil_append, List.cons_append, extK, Bool.and_true, Bool.true_and, Bool.not_true, Bool.not_false, resT, resVs, resV, true_and, and_true, storeK, spl_nil, spl_z, spl_1, spl_2, spl_3, spl_4, spl_5, spl_6, spl_7, spl_8, scal_int, scal_bool, scal_str, scal_nil, implies_true, Bool.and_self, Post_ret, Post_normal, PostS_ret, PostS_normal, retT_true, retT_false, flat_bool, flat_int, flat_str, List.take_length, decide_true, decide_false, Option.some.injEq, Value.bool.injEq, Value.int.injEq, Bool.false_and, Bool.and_false, not_false_eq_true, not_true_eq_false, toIntK, List.length_set, Nat.reduceMul, Bool.not_eq_true, Bool.not_eq_false, List.all_cons, List.all_nil, exps, fillL, buildK, strK, nilcK, fnK, callVT, List.size_toArray, List.append_nil, List.singleton_append, boxOK, newOK, scal_nil, List.isEmpty_nil, List.isEmpty_cons, mkVK, mkOK, mkCells, zeros_0, zeros_1, zeros_2, zeros_3, zeros_4, List.map_cons, List.map_nil, c112]
  refine brT.intro (fun h => ?_) (fun h => ?_) <;> simp only [go_nil, go_blk, go_skip, go_ret, go_exit, go_seq, go_block, go_reg, go_r0, go_r, go_d0, go_d, go_e0, go_e, box2, Option.isSome_some, Nat.le_refl, go_cond, go_o, go_g, aft_some, cnd_bool, grd_bool, grd_tup, brT_true, brT_false, brT_not, thr_exit, thr_c, thr_nil, stp, stepK, movK, mv1, ex, exv, exvs, upd_some, upd_none, ini, St.val, binK, binV, ofV, pickK, unK, unV, beqK, beq_true, beq_false, if_true, if_false, List.getElem?_cons_zero, List.getElem?_cons_succ, ↓reduceIte, Nat.reduceEqDiff, reduceCtorEq, loadK, adr, deref, Ad.fv, Ad.live, fadrK, List.length_cons, List.length_nil, List.drop_zero, List.drop_succ_cons, List.take_succ_cons, List.take_zero, Nat.reduceAdd, Nat.reduceLeDiff, Nat.zero_add, Nat.add_zero, aeqK, agEq, scEq, boxVK, newVK, exc, vc_agg, vc_int, vc_bool, vc_str, vc_ptr, vc_sl, vc_fn, boxOf, adInf, List.reverse_cons, List.reverse_nil, List.nil_append, List.cons_append, extK, Bool.and_true, Bool.true_and, Bool.not_true, Bool.not_false, resT, resVs, resV, true_and, and_true, storeK, spl_nil, spl_z, spl_1, spl_2, spl_3, spl_4, spl_5, spl_6, spl_7, spl_8, scal_int, scal_bool, scal_str, scal_nil, implies_true, Bool.and_self, Post_ret, Post_normal, PostS_ret, PostS_normal, retT_true, retT_false, flat_bool, flat_int, flat_str, List.take_length, decide_true, decide_false, Option.some.injEq, Value.bool.injEq, Value.int.injEq, Bool.false_and, Bool.and_false, not_false_eq_true, not_true_eq_false, toIntK, List.length_set, Nat.reduceMul, Bool.not_eq_true, Bool.not_eq_false, List.all_cons, List.all_nil, exps, fillL, buildK, strK, nilcK, fnK, callVT, List.size_toArray, List.append_nil, List.singleton_append, boxOK, newOK, scal_nil, List.isEmpty_nil, List.isEmpty_cons, mkVK, mkOK, mkCells, zeros_0, zeros_1, zeros_2, zeros_3, zeros_4, List.map_cons, List.map_nil, h]
theorem c112' {m : Md} {draw : Bool} {s : St} {d : Option Nat} {ts : List Tk} {Q : Ex → St → Prop} {a b c : Int} (hw : Wr m s.H) :
    callT EE m draw 112 (some [.int .i64 a, .int .i64 b, .int .i64 c]) s d ts Q = go EE m ts { s with ρ := upd s.ρ d (.val (.bool (decide (a ≥ b) && decide (a ≤ c)))) } Q := callT_at f112 rfl hw

theorem varB_in {n : Int} (h : (decide (n ≥ 0) && decide (n ≤ 562949953421311)) = true) : 0 ≤ n ∧ n ≤ 562949953421311 := by simpa using h
theorem varB_out {n : Int} (h : (decide (n ≥ 0) && decide (n ≤ 562949953421311)) = false) : varB n = ⟨#[]⟩ := by
  unfold varB
  rw [if_neg (fun h2 => by simp at h; omega)]
  rfl
theorem ne128 : ¬ ((128 : Int) = 0) := by decide

theorem f94 {H : Hp} {n : Int} : Scal EE 94 [.int .i64 n] H (.string (varB n)) := by
  refine scal_ok rfl rfl k94 (by simp [c94]) rfl fun m hw => ?_
  simp only [go_nil, go_blk, go_skip, go_ret, go_exit, go_seq, go_block, go_reg, go_r0, go_r, go_d0, go_d, go_e0, go_e, box2, Option.isSome_some, Nat.le_refl, go_cond, go_o, go_g, aft_some, cnd_bool, grd_bool, grd_tup, brT_true, brT_false, brT_not, thr_exit, thr_c, thr_nil, stp, stepK, movK, mv1, ex, exv, exvs, upd_some, upd_none, ini, St.val, binK, binV, ofV, pickK, unK, unV, beqK, beq_true, beq_false, if_true, if_false, List.getElem?_cons_zero, List.getElem?_cons_succ, ↓reduceIte, Nat.reduceEqDiff, reduceCtorEq, loadK, adr, deref, Ad.fv, Ad.live, fadrK, List.length_cons, List.length_nil, List.drop_zero, List.drop_succ_cons, List.take_succ_cons, List.take_zero, Nat.reduceAdd, Nat.reduceLeDiff, Nat.zero_add, Nat.add_zero, aeqK, agEq, scEq, boxVK, newVK, exc, vc_agg, vc_int, vc_bool, vc_str, vc_ptr, vc_sl, vc_fn, boxOf, adInf, List.reverse_cons, List.reverse_nil, List.nil_append, List.cons_append, extK, Bool.and_true, Bool.true_and, Bool.not_true, Bool.not_false, resT, resVs, resV, true_and, and_true, storeK, spl_nil, spl_z, spl_1, spl_2, spl_3, spl_4, spl_5, spl_6, spl_7, spl_8, scal_int, scal_bool, scal_str, scal_nil, implies_true, Bool.and_self, Post_ret, Post_normal, PostS_ret, PostS_normal, retT_true, retT_false, flat_bool, flat_int, flat_str, List.take_length, decide_true, decide_false, Option.some.injEq, Value.bool.injEq, Value.int.injEq, Bool.false_and, Bool.and_false, not_false_eq_true, not_true_eq_false, toIntK, List.length_set, Nat.reduceMul, Bool.not_eq_true, Bool.not_eq_false, List.all_cons, List.all_nil, exps, fillL, buildK, strK, nilcK, fnK, callVT, List.size_toArray, List.append_nil, List.singleton_append, boxOK, newOK, scal_nil, List.isEmpty_nil, List.isEmpty_cons, mkVK, mkOK, mkCells, zeros_0, zeros_1, zeros_2, zeros_3, zeros_4, List.map_cons, List.map_nil, c94, c90', hw, fillL]
  refine brT.intro (fun h => ?_) (fun h => ?_) <;> simp only [go_nil, go_blk, go_skip, go_ret, go_exit, go_seq, go_block, go_reg, go_r0, go_r, go_d0, go_d, go_e0, go_e, box2, Option.isSome_some, Nat.le_refl, go_cond, go_o, go_g, aft_some, cnd_bool, grd_bool, grd_tup, brT_true, brT_false, brT_not, thr_exit, thr_c, thr_nil, stp, stepK, movK, mv1, ex, exv, exvs, upd_some, upd_none, ini, St.val, binK, binV, ofV, pickK, unK, unV, beqK, beq_true, beq_false, if_true, if_false, List.getElem?_cons_zero, List.getElem?_cons_succ, ↓reduceIte, Nat.reduceEqDiff, reduceCtorEq, loadK, adr, deref, Ad.fv, Ad.live, fadrK, List.length_cons, List.length_nil, List.drop_zero, List.drop_succ_cons, List.take_succ_cons, List.take_zero, Nat.reduceAdd, Nat.reduceLeDiff, Nat.zero_add, Nat.add_zero, aeqK, agEq, scEq, boxVK, newVK, exc, vc_agg, vc_int, vc_bool, vc_str, vc_ptr, vc_sl, vc_fn, boxOf, adInf, List.reverse_cons, List.reverse_nil, List.nil_append, List.cons_append, extK, Bool.and_true, Bool.true_and, Bool.not_true, Bool.not_false, resT, resVs, resV, true_and, and_true, storeK, spl_nil, spl_z, spl_1, spl_2, spl_3, spl_4, spl_5, spl_6, spl_7, spl_8, scal_int, scal_bool, scal_str, scal_nil, implies_true, Bool.and_self, Post_ret, Post_normal, PostS_ret, PostS_normal, retT_true, retT_false, flat_bool, flat_int, flat_str, List.take_length, decide_true, decide_false, Option.some.injEq, Value.bool.injEq, Value.int.injEq, Bool.false_and, Bool.and_false, not_false_eq_true, not_true_eq_false, toIntK, List.length_set, Nat.reduceMul, Bool.not_eq_true, Bool.not_eq_false, List.all_cons, List.all_nil, exps, fillL, buildK, strK, nilcK, fnK, callVT, List.size_toArray, List.append_nil, List.singleton_append, boxOK, newOK, scal_nil, List.isEmpty_nil, List.isEmpty_cons, mkVK, mkOK, mkCells, zeros_0, zeros_1, zeros_2, zeros_3, zeros_4, List.map_cons, List.map_nil, fillL]
  rotate_left
  · rw [varB_out h]
  obtain ⟨h0, h1⟩ := varB_in h
  obtain ⟨k, rfl⟩ : ∃ k : Nat, n = k := ⟨n.toNat, by omega⟩
  have hV : varB (k : Int) = strOf (varL k) := by unfold varB; rw [if_pos ⟨h0, h1⟩]; rfl
  have h7 : (128 : Nat) ^ (6 + 1) = 562949953421312 := by decide
  have hlen := varL_len 6 k (by omega)
  rw [hV]
  refine go_loop (fun j s => H <+: s.H ∧ s.ρ 0 = .val (.int .i64 j) ∧ j ≤ k ∧ ∃ wv l, s.ρ 3 = .val wv ∧ SlN s.H wv l ∧ OwnS H.length wv ∧ l ++ varL j = varL k)
    (fun s => H <+: s.H ∧ ∃ (j : Nat) (wv : Value) (l : List Nat), s.ρ 0 = .val (.int .i64 j) ∧ j < 128 ∧ s.ρ 3 = .val wv ∧ SlN s.H wv l ∧ OwnS H.length wv ∧ l ++ [j] = varL k) k ?_ ?_ ?_
  · exact ⟨List.prefix_append _ _, by simp [upd, ini], Nat.le_refl _, _, [], by simp [upd], own_newN, .inr ⟨_, _, _, _, rfl, Nat.le_refl _⟩, rfl⟩
  · rintro j s ⟨hH, h0', hj, wv, l, h3, hs, ho, hl⟩
    simp only [go_nil, go_blk, go_skip, go_ret, go_exit, go_seq, go_block, go_reg, go_r0, go_r, go_d0, go_d, go_e0, go_e, box2, Option.isSome_some, Nat.le_refl, go_cond, go_o, go_g, aft_some, cnd_bool, grd_bool, grd_tup, brT_true, brT_false, brT_not, thr_exit, thr_c, thr_nil, stp, stepK, movK, mv1, ex, exv, exvs, upd_some, upd_none, ini, St.val, binK, binV, ofV, pickK, unK, unV, beqK, beq_true, beq_false, if_true, if_false, List.getElem?_cons_zero, List.getElem?_cons_succ, ↓reduceIte, Nat.reduceEqDiff, reduceCtorEq, loadK, adr, deref, Ad.fv, Ad.live, fadrK, List.length_cons, List.length_nil, List.drop_zero, List.drop_succ_cons, List.take_succ_cons, List.take_zero, Nat.reduceAdd, Nat.reduceLeDiff, Nat.zero_add, Nat.add_zero, aeqK, agEq, scEq, boxVK, newVK, exc, vc_agg, vc_int, vc_bool, vc_str, vc_ptr, vc_sl, vc_fn, boxOf, adInf, List.reverse_cons, List.reverse_nil, List.nil_append, List.cons_append, extK, Bool.and_true, Bool.true_and, Bool.not_true, Bool.not_false, resT, resVs, resV, true_and, and_true, storeK, spl_nil, spl_z, spl_1, spl_2, spl_3, spl_4, spl_5, spl_6, spl_7, spl_8, scal_int, scal_bool, scal_str, scal_nil, implies_true, Bool.and_self, Post_ret, Post_normal, PostS_ret, PostS_normal, retT_true, retT_false, flat_bool, flat_int, flat_str, List.take_length, decide_true, decide_false, Option.some.injEq, Value.bool.injEq, Value.int.injEq, Bool.false_and, Bool.and_false, not_false_eq_true, not_true_eq_false, toIntK, List.length_set, Nat.reduceMul, Bool.not_eq_true, Bool.not_eq_false, List.all_cons, List.all_nil, exps, fillL, buildK, strK, nilcK, fnK, callVT, List.size_toArray, List.append_nil, List.singleton_append, boxOK, newOK, scal_nil, List.isEmpty_nil, List.isEmpty_cons, mkVK, mkOK, mkCells, zeros_0, zeros_1, zeros_2, zeros_3, zeros_4, List.map_cons, List.map_nil, h0', h3]
    refine brT.intro (fun q1 => ?_) (fun q1 => ?_) <;> simp only [go_nil, go_blk, go_skip, go_ret, go_exit, go_seq, go_block, go_reg, go_r0, go_r, go_d0, go_d, go_e0, go_e, box2, Option.isSome_some, Nat.le_refl, go_cond, go_o, go_g, aft_some, cnd_bool, grd_bool, grd_tup, brT_true, brT_false, brT_not, thr_exit, thr_c, thr_nil, stp, stepK, movK, mv1, ex, exv, exvs, upd_some, upd_none, ini, St.val, binK, binV, ofV, pickK, unK, unV, beqK, beq_true, beq_false, if_true, if_false, List.getElem?_cons_zero, List.getElem?_cons_succ, ↓reduceIte, Nat.reduceEqDiff, reduceCtorEq, loadK, adr, deref, Ad.fv, Ad.live, fadrK, List.length_cons, List.length_nil, List.drop_zero, List.drop_succ_cons, List.take_succ_cons, List.take_zero, Nat.reduceAdd, Nat.reduceLeDiff, Nat.zero_add, Nat.add_zero, aeqK, agEq, scEq, boxVK, newVK, exc, vc_agg, vc_int, vc_bool, vc_str, vc_ptr, vc_sl, vc_fn, boxOf, adInf, List.reverse_cons, List.reverse_nil, List.nil_append, List.cons_append, extK, Bool.and_true, Bool.true_and, Bool.not_true, Bool.not_false, resT, resVs, resV, true_and, and_true, storeK, spl_nil, spl_z, spl_1, spl_2, spl_3, spl_4, spl_5, spl_6, spl_7, spl_8, scal_int, scal_bool, scal_str, scal_nil, implies_true, Bool.and_self, Post_ret, Post_normal, PostS_ret, PostS_normal, retT_true, retT_false, flat_bool, flat_int, flat_str, List.take_length, decide_true, decide_false, Option.some.injEq, Value.bool.injEq, Value.int.injEq, Bool.false_and, Bool.and_false, not_false_eq_true, not_true_eq_false, toIntK, List.length_set, Nat.reduceMul, Bool.not_eq_true, Bool.not_eq_false, List.all_cons, List.all_nil, exps, fillL, buildK, strK, nilcK, fnK, callVT, List.size_toArray, List.append_nil, List.singleton_append, boxOK, newOK, scal_nil, List.isEmpty_nil, List.isEmpty_cons, mkVK, mkOK, mkCells, zeros_0, zeros_1, zeros_2, zeros_3, zeros_4, List.map_cons, List.map_nil, h0', h3]
    · have q2 : ¬ j < 128 := by have := of_decide_eq_true q1; omega
      have hll := congrArg List.length hl
      have hp := varL_pos j
      rw [List.length_append] at hll
      obtain ⟨v2, H2, e1, e2, e3, e4, e5, e6, e7⟩ := hs.oneN (m := m) (j % 128 + 128) ho hH.length_le hw (by omega)
      have t1 : Int.tmod (j : Int) 128 = ((j % 128 : Nat) : Int) := rfl
      have t2 : Int.tdiv (j : Int) 128 = ((j / 128 : Nat) : Int) := rfl
      have t3 : IntKind.u8.wrap (128 + ((j % 128 : Nat) : Int)) = ((j % 128 + 128 : Nat) : Int) := by rw [wrap8 _ (by omega) (by omega)]; omega
      simp only [go_nil, go_blk, go_skip, go_ret, go_exit, go_seq, go_block, go_reg, go_r0, go_r, go_d0, go_d, go_e0, go_e, box2, Option.isSome_some, Nat.le_refl, go_cond, go_o, go_g, aft_some, cnd_bool, grd_bool, grd_tup, brT_true, brT_false, brT_not, thr_exit, thr_c, thr_nil, stp, stepK, movK, mv1, ex, exv, exvs, upd_some, upd_none, ini, St.val, binK, binV, ofV, pickK, unK, unV, beqK, beq_true, beq_false, if_true, if_false, List.getElem?_cons_zero, List.getElem?_cons_succ, ↓reduceIte, Nat.reduceEqDiff, reduceCtorEq, loadK, adr, deref, Ad.fv, Ad.live, fadrK, List.length_cons, List.length_nil, List.drop_zero, List.drop_succ_cons, List.take_succ_cons, List.take_zero, Nat.reduceAdd, Nat.reduceLeDiff, Nat.zero_add, Nat.add_zero, aeqK, agEq, scEq, boxVK, newVK, exc, vc_agg, vc_int, vc_bool, vc_str, vc_ptr, vc_sl, vc_fn, boxOf, adInf, List.reverse_cons, List.reverse_nil, List.nil_append, List.cons_append, extK, Bool.and_true, Bool.true_and, Bool.not_true, Bool.not_false, resT, resVs, resV, true_and, and_true, storeK, spl_nil, spl_z, spl_1, spl_2, spl_3, spl_4, spl_5, spl_6, spl_7, spl_8, scal_int, scal_bool, scal_str, scal_nil, implies_true, Bool.and_self, Post_ret, Post_normal, PostS_ret, PostS_normal, retT_true, retT_false, flat_bool, flat_int, flat_str, List.take_length, decide_true, decide_false, Option.some.injEq, Value.bool.injEq, Value.int.injEq, Bool.false_and, Bool.and_false, not_false_eq_true, not_true_eq_false, toIntK, List.length_set, Nat.reduceMul, Bool.not_eq_true, Bool.not_eq_false, List.all_cons, List.all_nil, exps, fillL, buildK, strK, nilcK, fnK, callVT, List.size_toArray, List.append_nil, List.singleton_append, boxOK, newOK, scal_nil, List.isEmpty_nil, List.isEmpty_cons, mkVK, mkOK, mkCells, zeros_0, zeros_1, zeros_2, zeros_3, zeros_4, List.map_cons, List.map_nil, h0', h3, ne128, t1, t2, wrap64 (128 + ((j % 128 : Nat) : Int)) (by omega) (by omega), t3]
      rw [e1]
      rotate_left
      · rfl
      · rfl
      · rfl
      simp only [go_nil, go_blk, go_skip, go_ret, go_exit, go_seq, go_block, go_reg, go_r0, go_r, go_d0, go_d, go_e0, go_e, box2, Option.isSome_some, Nat.le_refl, go_cond, go_o, go_g, aft_some, cnd_bool, grd_bool, grd_tup, brT_true, brT_false, brT_not, thr_exit, thr_c, thr_nil, stp, stepK, movK, mv1, ex, exv, exvs, upd_some, upd_none, ini, St.val, binK, binV, ofV, pickK, unK, unV, beqK, beq_true, beq_false, if_true, if_false, List.getElem?_cons_zero, List.getElem?_cons_succ, ↓reduceIte, Nat.reduceEqDiff, reduceCtorEq, loadK, adr, deref, Ad.fv, Ad.live, fadrK, List.length_cons, List.length_nil, List.drop_zero, List.drop_succ_cons, List.take_succ_cons, List.take_zero, Nat.reduceAdd, Nat.reduceLeDiff, Nat.zero_add, Nat.add_zero, aeqK, agEq, scEq, boxVK, newVK, exc, vc_agg, vc_int, vc_bool, vc_str, vc_ptr, vc_sl, vc_fn, boxOf, adInf, List.reverse_cons, List.reverse_nil, List.nil_append, List.cons_append, extK, Bool.and_true, Bool.true_and, Bool.not_true, Bool.not_false, resT, resVs, resV, true_and, and_true, storeK, spl_nil, spl_z, spl_1, spl_2, spl_3, spl_4, spl_5, spl_6, spl_7, spl_8, scal_int, scal_bool, scal_str, scal_nil, implies_true, Bool.and_self, Post_ret, Post_normal, PostS_ret, PostS_normal, retT_true, retT_false, flat_bool, flat_int, flat_str, List.take_length, decide_true, decide_false, Option.some.injEq, Value.bool.injEq, Value.int.injEq, Bool.false_and, Bool.and_false, not_false_eq_true, not_true_eq_false, toIntK, List.length_set, Nat.reduceMul, Bool.not_eq_true, Bool.not_eq_false, List.all_cons, List.all_nil, exps, fillL, buildK, strK, nilcK, fnK, callVT, List.size_toArray, List.append_nil, List.singleton_append, boxOK, newOK, scal_nil, List.isEmpty_nil, List.isEmpty_cons, mkVK, mkOK, mkCells, zeros_0, zeros_1, zeros_2, zeros_3, zeros_4, List.map_cons, List.map_nil, h0', h3, ne128, t1, t2, wrap64 (((j / 128 : Nat) : Int)) (by omega) (by omega)]
      refine ⟨j / 128, by omega, e7 H (Nat.le_refl _) hH, rfl, by omega, v2, _, rfl, e2, e3, ?_⟩
      rw [List.append_assoc, List.singleton_append, ← varL_ge q2]
      exact hl
    · have q2 : j < 128 := by have := of_decide_eq_false q1; omega
      rw [varL_lt q2] at hl
      exact ⟨hH, j, wv, l, rfl, q2, rfl, hs, ho, hl⟩
  · rintro s ⟨hH, j, wv, l, h0', hj, h3, hs, ho, hl⟩
    have hll := congrArg List.length hl
    rw [List.length_append] at hll
    obtain ⟨v2, H2, e1, e2, e3, e4, e5, e6, e7⟩ := hs.oneN (m := m) j ho hH.length_le hw (by simp at hll; omega)
    have hb := e2.b2s (fun x hx => by
      rw [hl] at hx
      obtain ⟨i, hi⟩ := List.getElem?_of_mem hx
      exact (varL_bits k i x hi).1)
    simp only [go_nil, go_blk, go_skip, go_ret, go_exit, go_seq, go_block, go_reg, go_r0, go_r, go_d0, go_d, go_e0, go_e, box2, Option.isSome_some, Nat.le_refl, go_cond, go_o, go_g, aft_some, cnd_bool, grd_bool, grd_tup, brT_true, brT_false, brT_not, thr_exit, thr_c, thr_nil, stp, stepK, movK, mv1, ex, exv, exvs, upd_some, upd_none, ini, St.val, binK, binV, ofV, pickK, unK, unV, beqK, beq_true, beq_false, if_true, if_false, List.getElem?_cons_zero, List.getElem?_cons_succ, ↓reduceIte, Nat.reduceEqDiff, reduceCtorEq, loadK, adr, deref, Ad.fv, Ad.live, fadrK, List.length_cons, List.length_nil, List.drop_zero, List.drop_succ_cons, List.take_succ_cons, List.take_zero, Nat.reduceAdd, Nat.reduceLeDiff, Nat.zero_add, Nat.add_zero, aeqK, agEq, scEq, boxVK, newVK, exc, vc_agg, vc_int, vc_bool, vc_str, vc_ptr, vc_sl, vc_fn, boxOf, adInf, List.reverse_cons, List.reverse_nil, List.nil_append, List.cons_append, extK, Bool.and_true, Bool.true_and, Bool.not_true, Bool.not_false, resT, resVs, resV, true_and, and_true, storeK, spl_nil, spl_z, spl_1, spl_2, spl_3, spl_4, spl_5, spl_6, spl_7, spl_8, scal_int, scal_bool, scal_str, scal_nil, implies_true, Bool.and_self, Post_ret, Post_normal, PostS_ret, PostS_normal, retT_true, retT_false, flat_bool, flat_int, flat_str, List.take_length, decide_true, decide_false, Option.some.injEq, Value.bool.injEq, Value.int.injEq, Bool.false_and, Bool.and_false, not_false_eq_true, not_true_eq_false, toIntK, List.length_set, Nat.reduceMul, Bool.not_eq_true, Bool.not_eq_false, List.all_cons, List.all_nil, exps, fillL, buildK, strK, nilcK, fnK, callVT, List.size_toArray, List.append_nil, List.singleton_append, boxOK, newOK, scal_nil, List.isEmpty_nil, List.isEmpty_cons, mkVK, mkOK, mkCells, zeros_0, zeros_1, zeros_2, zeros_3, zeros_4, List.map_cons, List.map_nil, h0', h3, wrap8 (j : Int) (by omega) (by omega)]
    rw [e1]
    rotate_left
    · rfl
    · rfl
    · rfl
    simp only [go_nil, go_blk, go_skip, go_ret, go_exit, go_seq, go_block, go_reg, go_r0, go_r, go_d0, go_d, go_e0, go_e, box2, Option.isSome_some, Nat.le_refl, go_cond, go_o, go_g, aft_some, cnd_bool, grd_bool, grd_tup, brT_true, brT_false, brT_not, thr_exit, thr_c, thr_nil, stp, stepK, movK, mv1, ex, exv, exvs, upd_some, upd_none, ini, St.val, binK, binV, ofV, pickK, unK, unV, beqK, beq_true, beq_false, if_true, if_false, List.getElem?_cons_zero, List.getElem?_cons_succ, ↓reduceIte, Nat.reduceEqDiff, reduceCtorEq, loadK, adr, deref, Ad.fv, Ad.live, fadrK, List.length_cons, List.length_nil, List.drop_zero, List.drop_succ_cons, List.take_succ_cons, List.take_zero, Nat.reduceAdd, Nat.reduceLeDiff, Nat.zero_add, Nat.add_zero, aeqK, agEq, scEq, boxVK, newVK, exc, vc_agg, vc_int, vc_bool, vc_str, vc_ptr, vc_sl, vc_fn, boxOf, adInf, List.reverse_cons, List.reverse_nil, List.nil_append, List.cons_append, extK, Bool.and_true, Bool.true_and, Bool.not_true, Bool.not_false, resT, resVs, resV, true_and, and_true, storeK, spl_nil, spl_z, spl_1, spl_2, spl_3, spl_4, spl_5, spl_6, spl_7, spl_8, scal_int, scal_bool, scal_str, scal_nil, implies_true, Bool.and_self, Post_ret, Post_normal, PostS_ret, PostS_normal, retT_true, retT_false, flat_bool, flat_int, flat_str, List.take_length, decide_true, decide_false, Option.some.injEq, Value.bool.injEq, Value.int.injEq, Bool.false_and, Bool.and_false, not_false_eq_true, not_true_eq_false, toIntK, List.length_set, Nat.reduceMul, Bool.not_eq_true, Bool.not_eq_false, List.all_cons, List.all_nil, exps, fillL, buildK, strK, nilcK, fnK, callVT, List.size_toArray, List.append_nil, List.singleton_append, boxOK, newOK, scal_nil, List.isEmpty_nil, List.isEmpty_cons, mkVK, mkOK, mkCells, zeros_0, zeros_1, zeros_2, zeros_3, zeros_4, List.map_cons, List.map_nil]
    rw [hb]
    rotate_left
    · rfl
    · rfl
    simp only [go_nil, go_blk, go_skip, go_ret, go_exit, go_seq, go_block, go_reg, go_r0, go_r, go_d0, go_d, go_e0, go_e, box2, Option.isSome_some, Nat.le_refl, go_cond, go_o, go_g, aft_some, cnd_bool, grd_bool, grd_tup, brT_true, brT_false, brT_not, thr_exit, thr_c, thr_nil, stp, stepK, movK, mv1, ex, exv, exvs, upd_some, upd_none, ini, St.val, binK, binV, ofV, pickK, unK, unV, beqK, beq_true, beq_false, if_true, if_false, List.getElem?_cons_zero, List.getElem?_cons_succ, ↓reduceIte, Nat.reduceEqDiff, reduceCtorEq, loadK, adr, deref, Ad.fv, Ad.live, fadrK, List.length_cons, List.length_nil, List.drop_zero, List.drop_succ_cons, List.take_succ_cons, List.take_zero, Nat.reduceAdd, Nat.reduceLeDiff, Nat.zero_add, Nat.add_zero, aeqK, agEq, scEq, boxVK, newVK, exc, vc_agg, vc_int, vc_bool, vc_str, vc_ptr, vc_sl, vc_fn, boxOf, adInf, List.reverse_cons, List.reverse_nil, List.nil_append, List.cons_append, extK, Bool.and_true, Bool.true_and, Bool.not_true, Bool.not_false, resT, resVs, resV, true_and, and_true, storeK, spl_nil, spl_z, spl_1, spl_2, spl_3, spl_4, spl_5, spl_6, spl_7, spl_8, scal_int, scal_bool, scal_str, scal_nil, implies_true, Bool.and_self, Post_ret, Post_normal, PostS_ret, PostS_normal, retT_true, retT_false, flat_bool, flat_int, flat_str, List.take_length, decide_true, decide_false, Option.some.injEq, Value.bool.injEq, Value.int.injEq, Bool.false_and, Bool.and_false, not_false_eq_true, not_true_eq_false, toIntK, List.length_set, Nat.reduceMul, Bool.not_eq_true, Bool.not_eq_false, List.all_cons, List.all_nil, exps, fillL, buildK, strK, nilcK, fnK, callVT, List.size_toArray, List.append_nil, List.singleton_append, boxOK, newOK, scal_nil, List.isEmpty_nil, List.isEmpty_cons, mkVK, mkOK, mkCells, zeros_0, zeros_1, zeros_2, zeros_3, zeros_4, List.map_cons, List.map_nil, hl]
    exact pre_take (e7 H (Nat.le_refl _) hH)
theorem f99 {H : Hp} {n : Int} : Scal EE 99 [.int .i64 n] H (.string (varB n)) := by
  refine scal_ok rfl rfl k99 (by simp [c99]) rfl fun m hw => ?_
  simp only [go_nil, go_blk, go_skip, go_ret, go_exit, go_seq, go_block, go_reg, go_r0, go_r, go_d0, go_d, go_e0, go_e, box2, Option.isSome_some, Nat.le_refl, go_cond, go_o, go_g, aft_some, cnd_bool, grd_bool, grd_tup, brT_true, brT_false, brT_not, thr_exit, thr_c, thr_nil, stp, stepK, movK, mv1, ex, exv, exvs, upd_some, upd_none, ini, St.val, binK, binV, ofV, pickK, unK, unV, beqK, beq_true, beq_false, if_true, if_false, List.getElem?_cons_zero, List.getElem?_cons_succ, ↓reduceIte, Nat.reduceEqDiff, reduceCtorEq, loadK, adr, deref, Ad.fv, Ad.live, fadrK, List.length_cons, List.length_nil, List.drop_zero, List.drop_succ_cons, List.take_succ_cons, List.take_zero, Nat.reduceAdd, Nat.reduceLeDiff, Nat.zero_add, Nat.add_zero, aeqK, agEq, scEq, boxVK, newVK, exc, vc_agg, vc_int, vc_bool, vc_str, vc_ptr, vc_sl, vc_fn, boxOf, adInf, List.reverse_cons, List.reverse_nil, List.nil_append, List.cons_append, extK, Bool.and_true, Bool.true_and, Bool.not_true, Bool.not_false, resT, resVs, resV, true_and, and_true, storeK, spl_nil, spl_z, spl_1, spl_2, spl_3, spl_4, spl_5, spl_6, spl_7, spl_8, scal_int, scal_bool, scal_str, scal_nil, implies_true, Bool.and_self, Post_ret, Post_normal, PostS_ret, PostS_normal, retT_true, retT_false, flat_bool, flat_int, flat_str, List.take_length, decide_true, decide_false, Option.some.injEq, Value.bool.injEq, Value.int.injEq, Bool.false_and, Bool.and_false, not_false_eq_true, not_true_eq_false, toIntK, List.length_set, Nat.reduceMul, Bool.not_eq_true, Bool.not_eq_false, List.all_cons, List.all_nil, exps, fillL, buildK, strK, nilcK, fnK, callVT, List.size_toArray, List.append_nil, List.singleton_append, boxOK, newOK, scal_nil, List.isEmpty_nil, List.isEmpty_cons, mkVK, mkOK, mkCells, zeros_0, zeros_1, zeros_2, zeros_3, zeros_4, List.map_cons, List.map_nil, c99, c112', hw, fillL]
  refine brT.intro (fun h => ?_) (fun h => ?_) <;> simp only [go_nil, go_blk, go_skip, go_ret, go_exit, go_seq, go_block, go_reg, go_r0, go_r, go_d0, go_d, go_e0, go_e, box2, Option.isSome_some, Nat.le_refl, go_cond, go_o, go_g, aft_some, cnd_bool, grd_bool, grd_tup, brT_true, brT_false, brT_not, thr_exit, thr_c, thr_nil, stp, stepK, movK, mv1, ex, exv, exvs, upd_some, upd_none, ini, St.val, binK, binV, ofV, pickK, unK, unV, beqK, beq_true, beq_false, if_true, if_false, List.getElem?_cons_zero, List.getElem?_cons_succ, ↓reduceIte, Nat.reduceEqDiff, reduceCtorEq, loadK, adr, deref, Ad.fv, Ad.live, fadrK, List.length_cons, List.length_nil, List.drop_zero, List.drop_succ_cons, List.take_succ_cons, List.take_zero, Nat.reduceAdd, Nat.reduceLeDiff, Nat.zero_add, Nat.add_zero, aeqK, agEq, scEq, boxVK, newVK, exc, vc_agg, vc_int, vc_bool, vc_str, vc_ptr, vc_sl, vc_fn, boxOf, adInf, List.reverse_cons, List.reverse_nil, List.nil_append, List.cons_append, extK, Bool.and_true, Bool.true_and, Bool.not_true, Bool.not_false, resT, resVs, resV, true_and, and_true, storeK, spl_nil, spl_z, spl_1, spl_2, spl_3, spl_4, spl_5, spl_6, spl_7, spl_8, scal_int, scal_bool, scal_str, scal_nil, implies_true, Bool.and_self, Post_ret, Post_normal, PostS_ret, PostS_normal, retT_true, retT_false, flat_bool, flat_int, flat_str, List.take_length, decide_true, decide_false, Option.some.injEq, Value.bool.injEq, Value.int.injEq, Bool.false_and, Bool.and_false, not_false_eq_true, not_true_eq_false, toIntK, List.length_set, Nat.reduceMul, Bool.not_eq_true, Bool.not_eq_false, List.all_cons, List.all_nil, exps, fillL, buildK, strK, nilcK, fnK, callVT, List.size_toArray, List.append_nil, List.singleton_append, boxOK, newOK, scal_nil, List.isEmpty_nil, List.isEmpty_cons, mkVK, mkOK, mkCells, zeros_0, zeros_1, zeros_2, zeros_3, zeros_4, List.map_cons, List.map_nil, fillL]
  rotate_left
  · rw [varB_out h]
  obtain ⟨h0, h1⟩ := varB_in h
  obtain ⟨k, rfl⟩ : ∃ k : Nat, n = k := ⟨n.toNat, by omega⟩
  have hV : varB (k : Int) = strOf (varL k) := by unfold varB; rw [if_pos ⟨h0, h1⟩]; rfl
  have h7 : (128 : Nat) ^ (6 + 1) = 562949953421312 := by decide
  have hlen := varL_len 6 k (by omega)
  rw [hV]
  refine go_loop (fun j s => H <+: s.H ∧ s.ρ 0 = .val (.int .i64 j) ∧ j ≤ k ∧ ∃ wv l, s.ρ 3 = .val wv ∧ SlN s.H wv l ∧ OwnS H.length wv ∧ l ++ varL j = varL k)
    (fun s => H <+: s.H ∧ ∃ (j : Nat) (wv : Value) (l : List Nat), s.ρ 0 = .val (.int .i64 j) ∧ j < 128 ∧ s.ρ 3 = .val wv ∧ SlN s.H wv l ∧ OwnS H.length wv ∧ l ++ [j] = varL k) k ?_ ?_ ?_
  · exact ⟨List.prefix_append _ _, by simp [upd, ini], Nat.le_refl _, _, [], by simp [upd], own_newN, .inr ⟨_, _, _, _, rfl, Nat.le_refl _⟩, rfl⟩
  · rintro j s ⟨hH, h0', hj, wv, l, h3, hs, ho, hl⟩
    simp only [go_nil, go_blk, go_skip, go_ret, go_exit, go_seq, go_block, go_reg, go_r0, go_r, go_d0, go_d, go_e0, go_e, box2, Option.isSome_some, Nat.le_refl, go_cond, go_o, go_g, aft_some, cnd_bool, grd_bool, grd_tup, brT_true, brT_false, brT_not, thr_exit, thr_c, thr_nil, stp, stepK, movK, mv1, ex, exv, exvs, upd_some, upd_none, ini, St.val, binK, binV, ofV, pickK, unK, unV, beqK, beq_true, beq_false, if_true, if_false, List.getElem?_cons_zero, List.getElem?_cons_succ, ↓reduceIte, Nat.reduceEqDiff, reduceCtorEq, loadK, adr, deref, Ad.fv, Ad.live, fadrK, List.length_cons, List.length_nil, List.drop_zero, List.drop_succ_cons, List.take_succ_cons, List.take_zero, Nat.reduceAdd, Nat.reduceLeDiff, Nat.zero_add, Nat.add_zero, aeqK, agEq, scEq, boxVK, newVK, exc, vc_agg, vc_int, vc_bool, vc_str, vc_ptr, vc_sl, vc_fn, boxOf, adInf, List.reverse_cons, List.reverse_nil, List.nil_append, List.cons_append, extK, Bool.and_true, Bool.true_and, Bool.not_true, Bool.not_false, resT, resVs, resV, true_and, and_true, storeK, spl_nil, spl_z, spl_1, spl_2, spl_3, spl_4, spl_5, spl_6, spl_7, spl_8, scal_int, scal_bool, scal_str, scal_nil, implies_true, Bool.and_self, Post_ret, Post_normal, PostS_ret, PostS_normal, retT_true, retT_false, flat_bool, flat_int, flat_str, List.take_length, decide_true, decide_false, Option.some.injEq, Value.bool.injEq, Value.int.injEq, Bool.false_and, Bool.and_false, not_false_eq_true, not_true_eq_false, toIntK, List.length_set, Nat.reduceMul, Bool.not_eq_true, Bool.not_eq_false, List.all_cons, List.all_nil, exps, fillL, buildK, strK, nilcK, fnK, callVT, List.size_toArray, List.append_nil, List.singleton_append, boxOK, newOK, scal_nil, List.isEmpty_nil, List.isEmpty_cons, mkVK, mkOK, mkCells, zeros_0, zeros_1, zeros_2, zeros_3, zeros_4, List.map_cons, List.map_nil, h0', h3]
    refine brT.intro (fun q1 => ?_) (fun q1 => ?_) <;> simp only [go_nil, go_blk, go_skip, go_ret, go_exit, go_seq, go_block, go_reg, go_r0, go_r, go_d0, go_d, go_e0, go_e, box2, Option.isSome_some, Nat.le_refl, go_cond, go_o, go_g, aft_some, cnd_bool, grd_bool, grd_tup, brT_true, brT_false, brT_not, thr_exit, thr_c, thr_nil, stp, stepK, movK, mv1, ex, exv, exvs, upd_some, upd_none, ini, St.val, binK, binV, ofV, pickK, unK, unV, beqK, beq_true, beq_false, if_true, if_false, List.getElem?_cons_zero, List.getElem?_cons_succ, ↓reduceIte, Nat.reduceEqDiff, reduceCtorEq, loadK, adr, deref, Ad.fv, Ad.live, fadrK, List.length_cons, List.length_nil, List.drop_zero, List.drop_succ_cons, List.take_succ_cons, List.take_zero, Nat.reduceAdd, Nat.reduceLeDiff, Nat.zero_add, Nat.add_zero, aeqK, agEq, scEq, boxVK, newVK, exc, vc_agg, vc_int, vc_bool, vc_str, vc_ptr, vc_sl, vc_fn, boxOf, adInf, List.reverse_cons, List.reverse_nil, List.nil_append, List.cons_append, extK, Bool.and_true, Bool.true_and, Bool.not_true, Bool.not_false, resT, resVs, resV, true_and, and_true, storeK, spl_nil, spl_z, spl_1, spl_2, spl_3, spl_4, spl_5, spl_6, spl_7, spl_8, scal_int, scal_bool, scal_str, scal_nil, implies_true, Bool.and_self, Post_ret, Post_normal, PostS_ret, PostS_normal, retT_true, retT_false, flat_bool, flat_int, flat_str, List.take_length, decide_true, decide_false, Option.some.injEq, Value.bool.injEq, Value.int.injEq, Bool.false_and, Bool.and_false, not_false_eq_true, not_true_eq_false, toIntK, List.length_set, Nat.reduceMul, Bool.not_eq_true, Bool.not_eq_false, List.all_cons, List.all_nil, exps, fillL, buildK, strK, nilcK, fnK, callVT, List.size_toArray, List.append_nil, List.singleton_append, boxOK, newOK, scal_nil, List.isEmpty_nil, List.isEmpty_cons, mkVK, mkOK, mkCells, zeros_0, zeros_1, zeros_2, zeros_3, zeros_4, List.map_cons, List.map_nil, h0', h3]
    · have q2 : ¬ j < 128 := by have := of_decide_eq_true q1; omega
      have hll := congrArg List.length hl
      have hp := varL_pos j
      rw [List.length_append] at hll
      obtain ⟨v2, H2, e1, e2, e3, e4, e5, e6, e7⟩ := hs.oneN (m := m) (j % 128 + 128) ho hH.length_le hw (by omega)
      have t1 := and7 (k := j) (by omega)
      have t2 : Int.fdiv (j : Int) (2 ^ (min (Int.toNat 7) IntKind.i64.bits)) = ((j / 128 : Nat) : Int) := by rw [show (2 : Int) ^ (min (Int.toNat 7) IntKind.i64.bits) = 128 by decide, Int.fdiv_eq_ediv_of_nonneg _ (by decide)]; omega
      have t3 := or128 (k := j % 128) (by omega)
      have t4 : IntKind.u8.wrap (((j % 128 + 128 : Nat) : Int)) = ((j % 128 + 128 : Nat) : Int) := wrap8 _ (by omega) (by omega)
      simp only [go_nil, go_blk, go_skip, go_ret, go_exit, go_seq, go_block, go_reg, go_r0, go_r, go_d0, go_d, go_e0, go_e, box2, Option.isSome_some, Nat.le_refl, go_cond, go_o, go_g, aft_some, cnd_bool, grd_bool, grd_tup, brT_true, brT_false, brT_not, thr_exit, thr_c, thr_nil, stp, stepK, movK, mv1, ex, exv, exvs, upd_some, upd_none, ini, St.val, binK, binV, ofV, pickK, unK, unV, beqK, beq_true, beq_false, if_true, if_false, List.getElem?_cons_zero, List.getElem?_cons_succ, ↓reduceIte, Nat.reduceEqDiff, reduceCtorEq, loadK, adr, deref, Ad.fv, Ad.live, fadrK, List.length_cons, List.length_nil, List.drop_zero, List.drop_succ_cons, List.take_succ_cons, List.take_zero, Nat.reduceAdd, Nat.reduceLeDiff, Nat.zero_add, Nat.add_zero, aeqK, agEq, scEq, boxVK, newVK, exc, vc_agg, vc_int, vc_bool, vc_str, vc_ptr, vc_sl, vc_fn, boxOf, adInf, List.reverse_cons, List.reverse_nil, List.nil_append, List.cons_append, extK, Bool.and_true, Bool.true_and, Bool.not_true, Bool.not_false, resT, resVs, resV, true_and, and_true, storeK, spl_nil, spl_z, spl_1, spl_2, spl_3, spl_4, spl_5, spl_6, spl_7, spl_8, scal_int, scal_bool, scal_str, scal_nil, implies_true, Bool.and_self, Post_ret, Post_normal, PostS_ret, PostS_normal, retT_true, retT_false, flat_bool, flat_int, flat_str, List.take_length, decide_true, decide_false, Option.some.injEq, Value.bool.injEq, Value.int.injEq, Bool.false_and, Bool.and_false, not_false_eq_true, not_true_eq_false, toIntK, List.length_set, Nat.reduceMul, Bool.not_eq_true, Bool.not_eq_false, List.all_cons, List.all_nil, exps, fillL, buildK, strK, nilcK, fnK, callVT, List.size_toArray, List.append_nil, List.singleton_append, boxOK, newOK, scal_nil, List.isEmpty_nil, List.isEmpty_cons, mkVK, mkOK, mkCells, zeros_0, zeros_1, zeros_2, zeros_3, zeros_4, List.map_cons, List.map_nil, h0', h3, t1, t3, t4]
      rw [e1]
      rotate_left
      · rfl
      · rfl
      · rfl
      simp only [go_nil, go_blk, go_skip, go_ret, go_exit, go_seq, go_block, go_reg, go_r0, go_r, go_d0, go_d, go_e0, go_e, box2, Option.isSome_some, Nat.le_refl, go_cond, go_o, go_g, aft_some, cnd_bool, grd_bool, grd_tup, brT_true, brT_false, brT_not, thr_exit, thr_c, thr_nil, stp, stepK, movK, mv1, ex, exv, exvs, upd_some, upd_none, ini, St.val, binK, binV, ofV, pickK, unK, unV, beqK, beq_true, beq_false, if_true, if_false, List.getElem?_cons_zero, List.getElem?_cons_succ, ↓reduceIte, Nat.reduceEqDiff, reduceCtorEq, loadK, adr, deref, Ad.fv, Ad.live, fadrK, List.length_cons, List.length_nil, List.drop_zero, List.drop_succ_cons, List.take_succ_cons, List.take_zero, Nat.reduceAdd, Nat.reduceLeDiff, Nat.zero_add, Nat.add_zero, aeqK, agEq, scEq, boxVK, newVK, exc, vc_agg, vc_int, vc_bool, vc_str, vc_ptr, vc_sl, vc_fn, boxOf, adInf, List.reverse_cons, List.reverse_nil, List.nil_append, List.cons_append, extK, Bool.and_true, Bool.true_and, Bool.not_true, Bool.not_false, resT, resVs, resV, true_and, and_true, storeK, spl_nil, spl_z, spl_1, spl_2, spl_3, spl_4, spl_5, spl_6, spl_7, spl_8, scal_int, scal_bool, scal_str, scal_nil, implies_true, Bool.and_self, Post_ret, Post_normal, PostS_ret, PostS_normal, retT_true, retT_false, flat_bool, flat_int, flat_str, List.take_length, decide_true, decide_false, Option.some.injEq, Value.bool.injEq, Value.int.injEq, Bool.false_and, Bool.and_false, not_false_eq_true, not_true_eq_false, toIntK, List.length_set, Nat.reduceMul, Bool.not_eq_true, Bool.not_eq_false, List.all_cons, List.all_nil, exps, fillL, buildK, strK, nilcK, fnK, callVT, List.size_toArray, List.append_nil, List.singleton_append, boxOK, newOK, scal_nil, List.isEmpty_nil, List.isEmpty_cons, mkVK, mkOK, mkCells, zeros_0, zeros_1, zeros_2, zeros_3, zeros_4, List.map_cons, List.map_nil, h0', h3, t2, Int.reduceLT]
      refine ⟨j / 128, by omega, e7 H (Nat.le_refl _) hH, rfl, by omega, v2, _, rfl, e2, e3, ?_⟩
      rw [List.append_assoc, List.singleton_append, ← varL_ge q2]
      exact hl
    · have q2 : j < 128 := by have := of_decide_eq_false q1; omega
      rw [varL_lt q2] at hl
      exact ⟨hH, j, wv, l, rfl, q2, rfl, hs, ho, hl⟩
  · rintro s ⟨hH, j, wv, l, h0', hj, h3, hs, ho, hl⟩
    have hll := congrArg List.length hl
    rw [List.length_append] at hll
    obtain ⟨v2, H2, e1, e2, e3, e4, e5, e6, e7⟩ := hs.oneN (m := m) j ho hH.length_le hw (by simp at hll; omega)
    have hb := e2.b2s (fun x hx => by
      rw [hl] at hx
      obtain ⟨i, hi⟩ := List.getElem?_of_mem hx
      exact (varL_bits k i x hi).1)
    simp only [go_nil, go_blk, go_skip, go_ret, go_exit, go_seq, go_block, go_reg, go_r0, go_r, go_d0, go_d, go_e0, go_e, box2, Option.isSome_some, Nat.le_refl, go_cond, go_o, go_g, aft_some, cnd_bool, grd_bool, grd_tup, brT_true, brT_false, brT_not, thr_exit, thr_c, thr_nil, stp, stepK, movK, mv1, ex, exv, exvs, upd_some, upd_none, ini, St.val, binK, binV, ofV, pickK, unK, unV, beqK, beq_true, beq_false, if_true, if_false, List.getElem?_cons_zero, List.getElem?_cons_succ, ↓reduceIte, Nat.reduceEqDiff, reduceCtorEq, loadK, adr, deref, Ad.fv, Ad.live, fadrK, List.length_cons, List.length_nil, List.drop_zero, List.drop_succ_cons, List.take_succ_cons, List.take_zero, Nat.reduceAdd, Nat.reduceLeDiff, Nat.zero_add, Nat.add_zero, aeqK, agEq, scEq, boxVK, newVK, exc, vc_agg, vc_int, vc_bool, vc_str, vc_ptr, vc_sl, vc_fn, boxOf, adInf, List.reverse_cons, List.reverse_nil, List.nil_append, List.cons_append, extK, Bool.and_true, Bool.true_and, Bool.not_true, Bool.not_false, resT, resVs, resV, true_and, and_true, storeK, spl_nil, spl_z, spl_1, spl_2, spl_3, spl_4, spl_5, spl_6, spl_7, spl_8, scal_int, scal_bool, scal_str, scal_nil, implies_true, Bool.and_self, Post_ret, Post_normal, PostS_ret, PostS_normal, retT_true, retT_false, flat_bool, flat_int, flat_str, List.take_length, decide_true, decide_false, Option.some.injEq, Value.bool.injEq, Value.int.injEq, Bool.false_and, Bool.and_false, not_false_eq_true, not_true_eq_false, toIntK, List.length_set, Nat.reduceMul, Bool.not_eq_true, Bool.not_eq_false, List.all_cons, List.all_nil, exps, fillL, buildK, strK, nilcK, fnK, callVT, List.size_toArray, List.append_nil, List.singleton_append, boxOK, newOK, scal_nil, List.isEmpty_nil, List.isEmpty_cons, mkVK, mkOK, mkCells, zeros_0, zeros_1, zeros_2, zeros_3, zeros_4, List.map_cons, List.map_nil, h0', h3, wrap8 (j : Int) (by omega) (by omega)]
    rw [e1]
    rotate_left
    · rfl
    · rfl
    · rfl
    simp only [go_nil, go_blk, go_skip, go_ret, go_exit, go_seq, go_block, go_reg, go_r0, go_r, go_d0, go_d, go_e0, go_e, box2, Option.isSome_some, Nat.le_refl, go_cond, go_o, go_g, aft_some, cnd_bool, grd_bool, grd_tup, brT_true, brT_false, brT_not, thr_exit, thr_c, thr_nil, stp, stepK, movK, mv1, ex, exv, exvs, upd_some, upd_none, ini, St.val, binK, binV, ofV, pickK, unK, unV, beqK, beq_true, beq_false, if_true, if_false, List.getElem?_cons_zero, List.getElem?_cons_succ, ↓reduceIte, Nat.reduceEqDiff, reduceCtorEq, loadK, adr, deref, Ad.fv, Ad.live, fadrK, List.length_cons, List.length_nil, List.drop_zero, List.drop_succ_cons, List.take_succ_cons, List.take_zero, Nat.reduceAdd, Nat.reduceLeDiff, Nat.zero_add, Nat.add_zero, aeqK, agEq, scEq, boxVK, newVK, exc, vc_agg, vc_int, vc_bool, vc_str, vc_ptr, vc_sl, vc_fn, boxOf, adInf, List.reverse_cons, List.reverse_nil, List.nil_append, List.cons_append, extK, Bool.and_true, Bool.true_and, Bool.not_true, Bool.not_false, resT, resVs, resV, true_and, and_true, storeK, spl_nil, spl_z, spl_1, spl_2, spl_3, spl_4, spl_5, spl_6, spl_7, spl_8, scal_int, scal_bool, scal_str, scal_nil, implies_true, Bool.and_self, Post_ret, Post_normal, PostS_ret, PostS_normal, retT_true, retT_false, flat_bool, flat_int, flat_str, List.take_length, decide_true, decide_false, Option.some.injEq, Value.bool.injEq, Value.int.injEq, Bool.false_and, Bool.and_false, not_false_eq_true, not_true_eq_false, toIntK, List.length_set, Nat.reduceMul, Bool.not_eq_true, Bool.not_eq_false, List.all_cons, List.all_nil, exps, fillL, buildK, strK, nilcK, fnK, callVT, List.size_toArray, List.append_nil, List.singleton_append, boxOK, newOK, scal_nil, List.isEmpty_nil, List.isEmpty_cons, mkVK, mkOK, mkCells, zeros_0, zeros_1, zeros_2, zeros_3, zeros_4, List.map_cons, List.map_nil]
    rw [hb]
    rotate_left
    · rfl
    · rfl
    simp only [go_nil, go_blk, go_skip, go_ret, go_exit, go_seq, go_block, go_reg, go_r0, go_r, go_d0, go_d, go_e0, go_e, box2, Option.isSome_some, Nat.le_refl, go_cond, go_o, go_g, aft_some, cnd_bool, grd_bool, grd_tup, brT_true, brT_false, brT_not, thr_exit, thr_c, thr_nil, stp, stepK, movK, mv1, ex, exv, exvs, upd_some, upd_none, ini, St.val, binK, binV, ofV, pickK, unK, unV, beqK, beq_true, beq_false, if_true, if_false, List.getElem?_cons_zero, List.getElem?_cons_succ, ↓reduceIte, Nat.reduceEqDiff, reduceCtorEq, loadK, adr, deref, Ad.fv, Ad.live, fadrK, List.length_cons, List.length_nil, List.drop_zero, List.drop_succ_cons, List.take_succ_cons, List.take_zero, Nat.reduceAdd, Nat.reduceLeDiff, Nat.zero_add, Nat.add_zero, aeqK, agEq, scEq, boxVK, newVK, exc, vc_agg, vc_int, vc_bool, vc_str, vc_ptr, vc_sl, vc_fn, boxOf, adInf, List.reverse_cons, List.reverse_nil, List.nil_append, List.cons_append, extK, Bool.and_true, Bool.true_and, Bool.not_true, Bool.not_false, resT, resVs, resV, true_and, and_true, storeK, spl_nil, spl_z, spl_1, spl_2, spl_3, spl_4, spl_5, spl_6, spl_7, spl_8, scal_int, scal_bool, scal_str, scal_nil, implies_true, Bool.and_self, Post_ret, Post_normal, PostS_ret, PostS_normal, retT_true, retT_false, flat_bool, flat_int, flat_str, List.take_length, decide_true, decide_false, Option.some.injEq, Value.bool.injEq, Value.int.injEq, Bool.false_and, Bool.and_false, not_false_eq_true, not_true_eq_false, toIntK, List.length_set, Nat.reduceMul, Bool.not_eq_true, Bool.not_eq_false, List.all_cons, List.all_nil, exps, fillL, buildK, strK, nilcK, fnK, callVT, List.size_toArray, List.append_nil, List.singleton_append, boxOK, newOK, scal_nil, List.isEmpty_nil, List.isEmpty_cons, mkVK, mkOK, mkCells, zeros_0, zeros_1, zeros_2, zeros_3, zeros_4, List.map_cons, List.map_nil, hl]
    exact pre_take (e7 H (Nat.le_refl _) hH)
end Go.Proofs.Ytpdkgbamakileaa.Ev

/- Numbers read from bytes: the reference's and the program's. -/
namespace Go.Proofs.Ytpdkgbamakileaa.Ev
set_option linter.all false
open Go
set_option maxRecDepth 4000

theorem idx_at {s : St} {x y : X} {b : ByteArray} {i : Nat} {c : UInt8} (hc : b[i]? = some c) (hx : exv s.ρ x = some (.string b)) (hy : exv s.ρ y = some (.int .i64 i)) : idxK s x y = some (.val (.int .u8 c.toNat), s) := by
  unfold idxK
  rw [hx, hy]
  simp only [Int.toNat_natCast, hc]
  rw [if_pos (by omega)]
  rfl
theorem byte_at {b : ByteArray} {i : Nat} (h : i < b.size) : ∃ c, b[i]? = some c := ⟨_, getElem?_pos b i h⟩
theorem slc_to {s : St} {x y : X} {b : ByteArray} {k : Nat} (hk : k ≤ b.size) (hx : exv s.ρ x = some (.string b)) (hy : exv s.ρ y = some (.int .i64 k)) : slcSK s x none (some y) = some (.val (.string (b.extract 0 k)), s) := by
  unfold slcSK
  rw [hx]
  simp only [bnd, hy]
  rw [if_pos ⟨by omega, by omega, by omega⟩]
  rfl
theorem slc_rest {s : St} {x y : X} {b : ByteArray} {k : Nat} (hk : k ≤ b.size) (hx : exv s.ρ x = some (.string b)) (hy : exv s.ρ y = some (.int .i64 k)) : slcSK s x (some y) none = some (.val (.string (rest b k)), s) := by
  unfold slcSK
  rw [hx]
  simp only [bnd, hy]
  rw [if_pos ⟨by omega, by omega, by omega⟩]
  rfl

theorem valB_succ {s : ByteArray} {k : Nat} {c : UInt8} (hc : s[k]? = some c) : valB s (k + 1) = valB s k + c.toNat % 128 * 128 ^ k := by
  rw [valB, hc]
theorem pow7 {k : Nat} (h : k ≤ 7) : (128 : Nat) ^ k ≤ 562949953421312 := by
  have : (128 : Nat) ^ k ≤ 128 ^ 7 := Nat.pow_le_pow_right (by decide) h
  have h7 : (128 : Nat) ^ 7 = 562949953421312 := by decide
  omega
theorem valB_max (s : ByteArray) {k : Nat} (h : k ≤ 7) : valB s k < 562949953421312 := Nat.lt_of_lt_of_le (valB_lt s k) (pow7 h)
theorem le_of_mul {n p q : Nat} (h : n * p ≤ q) (hp : 0 < p) : n ≤ q := Nat.le_trans (Nat.le_mul_of_pos_right n hp) h

theorem f127 {H : Hp} {s : ByteArray} (hs : s.size ≤ 4611686018427387904) : Scal EE 127 [.string s] H (.tuple #[.int .i64 ((rdV s).1 : Nat), .int .i64 ((rdV s).2 : Nat)]) := by
  refine scal_ok rfl rfl k127 (by simp [c127]) rfl fun m hw => ?_
  simp only [go_nil, go_blk, go_skip, go_ret, go_exit, go_seq, go_block, go_reg, go_r0, go_r, go_d0, go_d, go_e0, go_e, box2, Option.isSome_some, Nat.le_refl, go_cond, go_o, go_g, aft_some, cnd_bool, grd_bool, grd_tup, brT_true, brT_false, brT_not, thr_exit, thr_c, thr_nil, stp, stepK, movK, mv1, ex, exv, exvs, upd_some, upd_none, ini, St.val, binK, binV, ofV, pickK, unK, unV, beqK, beq_true, beq_false, if_true, if_false, List.getElem?_cons_zero, List.getElem?_cons_succ, ↓reduceIte, Nat.reduceEqDiff, reduceCtorEq, loadK, adr, deref, Ad.fv, Ad.live, fadrK, List.length_cons, List.length_nil, List.drop_zero, List.drop_succ_cons, List.take_succ_cons, List.take_zero, Nat.reduceAdd, Nat.reduceLeDiff, Nat.zero_add, Nat.add_zero, aeqK, agEq, scEq, boxVK, newVK, exc, vc_agg, vc_int, vc_bool, vc_str, vc_ptr, vc_sl, vc_fn, boxOf, adInf, List.reverse_cons, List.reverse_nil, List.nil_append, List.cons_append, extK, Bool.and_true, Bool.true_and, Bool.not_true, Bool.not_false, resT, resVs, resV, true_and, and_true, storeK, spl_nil, spl_z, spl_1, spl_2, spl_3, spl_4, spl_5, spl_6, spl_7, spl_8, scal_int, scal_bool, scal_str, scal_nil, implies_true, Bool.and_self, Post_ret, Post_normal, PostS_ret, PostS_normal, retT_true, retT_false, flat_bool, flat_int, flat_str, List.take_length, decide_true, decide_false, Option.some.injEq, Value.bool.injEq, Value.int.injEq, Bool.false_and, Bool.and_false, not_false_eq_true, not_true_eq_false, toIntK, List.length_set, Nat.reduceMul, Bool.not_eq_true, Bool.not_eq_false, List.all_cons, List.all_nil, exps, fillL, buildK, strK, nilcK, fnK, callVT, List.size_toArray, List.append_nil, List.singleton_append, boxOK, newOK, scal_nil, List.isEmpty_nil, List.isEmpty_cons, mkVK, mkOK, mkCells, zeros_0, zeros_1, zeros_2, zeros_3, zeros_4, List.map_cons, List.map_nil, c127]
  refine go_for 7 (fun i t => H <+: t.H ∧ t.ρ 0 = .val (.string s) ∧ t.ρ 4 = .val (.int .i64 ((i + 1 : Nat) : Int)) ∧ ∀ k, k ≤ i → 1 ≤ k → ¬ isV s k)
    (fun t => H <+: t.H ∧ ∀ n k, ¬ readV s n k) ?_ ?_ ?_
  · exact ⟨List.prefix_refl _, by simp [upd, ini], by simp [upd], fun k h1 h2 => by omega⟩
  · rintro i t hi ⟨hH, h0, h4, hn⟩
    simp only [go_nil, go_blk, go_skip, go_ret, go_exit, go_seq, go_block, go_reg, go_r0, go_r, go_d0, go_d, go_e0, go_e, box2, Option.isSome_some, Nat.le_refl, go_cond, go_o, go_g, aft_some, cnd_bool, grd_bool, grd_tup, brT_true, brT_false, brT_not, thr_exit, thr_c, thr_nil, stp, stepK, movK, mv1, ex, exv, exvs, upd_some, upd_none, ini, St.val, binK, binV, ofV, pickK, unK, unV, beqK, beq_true, beq_false, if_true, if_false, List.getElem?_cons_zero, List.getElem?_cons_succ, ↓reduceIte, Nat.reduceEqDiff, reduceCtorEq, loadK, adr, deref, Ad.fv, Ad.live, fadrK, List.length_cons, List.length_nil, List.drop_zero, List.drop_succ_cons, List.take_succ_cons, List.take_zero, Nat.reduceAdd, Nat.reduceLeDiff, Nat.zero_add, Nat.add_zero, aeqK, agEq, scEq, boxVK, newVK, exc, vc_agg, vc_int, vc_bool, vc_str, vc_ptr, vc_sl, vc_fn, boxOf, adInf, List.reverse_cons, List.reverse_nil, List.nil_append, List.cons_append, extK, Bool.and_true, Bool.true_and, Bool.not_true, Bool.not_false, resT, resVs, resV, true_and, and_true, storeK, spl_nil, spl_z, spl_1, spl_2, spl_3, spl_4, spl_5, spl_6, spl_7, spl_8, scal_int, scal_bool, scal_str, scal_nil, implies_true, Bool.and_self, Post_ret, Post_normal, PostS_ret, PostS_normal, retT_true, retT_false, flat_bool, flat_int, flat_str, List.take_length, decide_true, decide_false, Option.some.injEq, Value.bool.injEq, Value.int.injEq, Bool.false_and, Bool.and_false, not_false_eq_true, not_true_eq_false, toIntK, List.length_set, Nat.reduceMul, Bool.not_eq_true, Bool.not_eq_false, List.all_cons, List.all_nil, exps, fillL, buildK, strK, nilcK, fnK, callVT, List.size_toArray, List.append_nil, List.singleton_append, boxOK, newOK, scal_nil, List.isEmpty_nil, List.isEmpty_cons, mkVK, mkOK, mkCells, zeros_0, zeros_1, zeros_2, zeros_3, zeros_4, List.map_cons, List.map_nil, h0, h4, lenTK]
    refine brT.intro (fun c1 => ?_) (fun c1 => ?_) <;> simp only [go_nil, go_blk, go_skip, go_ret, go_exit, go_seq, go_block, go_reg, go_r0, go_r, go_d0, go_d, go_e0, go_e, box2, Option.isSome_some, Nat.le_refl, go_cond, go_o, go_g, aft_some, cnd_bool, grd_bool, grd_tup, brT_true, brT_false, brT_not, thr_exit, thr_c, thr_nil, stp, stepK, movK, mv1, ex, exv, exvs, upd_some, upd_none, ini, St.val, binK, binV, ofV, pickK, unK, unV, beqK, beq_true, beq_false, if_true, if_false, List.getElem?_cons_zero, List.getElem?_cons_succ, ↓reduceIte, Nat.reduceEqDiff, reduceCtorEq, loadK, adr, deref, Ad.fv, Ad.live, fadrK, List.length_cons, List.length_nil, List.drop_zero, List.drop_succ_cons, List.take_succ_cons, List.take_zero, Nat.reduceAdd, Nat.reduceLeDiff, Nat.zero_add, Nat.add_zero, aeqK, agEq, scEq, boxVK, newVK, exc, vc_agg, vc_int, vc_bool, vc_str, vc_ptr, vc_sl, vc_fn, boxOf, adInf, List.reverse_cons, List.reverse_nil, List.nil_append, List.cons_append, extK, Bool.and_true, Bool.true_and, Bool.not_true, Bool.not_false, resT, resVs, resV, true_and, and_true, storeK, spl_nil, spl_z, spl_1, spl_2, spl_3, spl_4, spl_5, spl_6, spl_7, spl_8, scal_int, scal_bool, scal_str, scal_nil, implies_true, Bool.and_self, Post_ret, Post_normal, PostS_ret, PostS_normal, retT_true, retT_false, flat_bool, flat_int, flat_str, List.take_length, decide_true, decide_false, Option.some.injEq, Value.bool.injEq, Value.int.injEq, Bool.false_and, Bool.and_false, not_false_eq_true, not_true_eq_false, toIntK, List.length_set, Nat.reduceMul, Bool.not_eq_true, Bool.not_eq_false, List.all_cons, List.all_nil, exps, fillL, buildK, strK, nilcK, fnK, callVT, List.size_toArray, List.append_nil, List.singleton_append, boxOK, newOK, scal_nil, List.isEmpty_nil, List.isEmpty_cons, mkVK, mkOK, mkCells, zeros_0, zeros_1, zeros_2, zeros_3, zeros_4, List.map_cons, List.map_nil, c1, h0, h4, lenTK]
    rotate_left
    · have : ¬ i + 1 ≤ 7 := by have := of_decide_eq_false c1; omega
      exact ⟨hH, fun n k h => hn k (by have := h.2.1; omega) h.1 h.2.2.2.2⟩
    refine brT.intro (fun c2 => ?_) (fun c2 => ?_) <;> simp only [go_nil, go_blk, go_skip, go_ret, go_exit, go_seq, go_block, go_reg, go_r0, go_r, go_d0, go_d, go_e0, go_e, box2, Option.isSome_some, Nat.le_refl, go_cond, go_o, go_g, aft_some, cnd_bool, grd_bool, grd_tup, brT_true, brT_false, brT_not, thr_exit, thr_c, thr_nil, stp, stepK, movK, mv1, ex, exv, exvs, upd_some, upd_none, ini, St.val, binK, binV, ofV, pickK, unK, unV, beqK, beq_true, beq_false, if_true, if_false, List.getElem?_cons_zero, List.getElem?_cons_succ, ↓reduceIte, Nat.reduceEqDiff, reduceCtorEq, loadK, adr, deref, Ad.fv, Ad.live, fadrK, List.length_cons, List.length_nil, List.drop_zero, List.drop_succ_cons, List.take_succ_cons, List.take_zero, Nat.reduceAdd, Nat.reduceLeDiff, Nat.zero_add, Nat.add_zero, aeqK, agEq, scEq, boxVK, newVK, exc, vc_agg, vc_int, vc_bool, vc_str, vc_ptr, vc_sl, vc_fn, boxOf, adInf, List.reverse_cons, List.reverse_nil, List.nil_append, List.cons_append, extK, Bool.and_true, Bool.true_and, Bool.not_true, Bool.not_false, resT, resVs, resV, true_and, and_true, storeK, spl_nil, spl_z, spl_1, spl_2, spl_3, spl_4, spl_5, spl_6, spl_7, spl_8, scal_int, scal_bool, scal_str, scal_nil, implies_true, Bool.and_self, Post_ret, Post_normal, PostS_ret, PostS_normal, retT_true, retT_false, flat_bool, flat_int, flat_str, List.take_length, decide_true, decide_false, Option.some.injEq, Value.bool.injEq, Value.int.injEq, Bool.false_and, Bool.and_false, not_false_eq_true, not_true_eq_false, toIntK, List.length_set, Nat.reduceMul, Bool.not_eq_true, Bool.not_eq_false, List.all_cons, List.all_nil, exps, fillL, buildK, strK, nilcK, fnK, callVT, List.size_toArray, List.append_nil, List.singleton_append, boxOK, newOK, scal_nil, List.isEmpty_nil, List.isEmpty_cons, mkVK, mkOK, mkCells, zeros_0, zeros_1, zeros_2, zeros_3, zeros_4, List.map_cons, List.map_nil, c1, c2, h0, h4]
    rotate_left
    · have : ¬ i + 1 ≤ s.size := by have := of_decide_eq_false c2; omega
      exact ⟨hH, fun n k h => hn k (by have := h.2.2.1; omega) h.1 h.2.2.2.2⟩
    have hi7 : i < 7 := by have := of_decide_eq_true c1; omega
    have his : i + 1 ≤ s.size := by have := of_decide_eq_true c2; omega
    have hvm := valB_max s (k := i + 1) (by omega)
    simp only [go_nil, go_blk, go_skip, go_ret, go_exit, go_seq, go_block, go_reg, go_r0, go_r, go_d0, go_d, go_e0, go_e, box2, Option.isSome_some, Nat.le_refl, go_cond, go_o, go_g, aft_some, cnd_bool, grd_bool, grd_tup, brT_true, brT_false, brT_not, thr_exit, thr_c, thr_nil, stp, stepK, movK, mv1, ex, exv, exvs, upd_some, upd_none, ini, St.val, binK, binV, ofV, pickK, unK, unV, beqK, beq_true, beq_false, if_true, if_false, List.getElem?_cons_zero, List.getElem?_cons_succ, ↓reduceIte, Nat.reduceEqDiff, reduceCtorEq, loadK, adr, deref, Ad.fv, Ad.live, fadrK, List.length_cons, List.length_nil, List.drop_zero, List.drop_succ_cons, List.take_succ_cons, List.take_zero, Nat.reduceAdd, Nat.reduceLeDiff, Nat.zero_add, Nat.add_zero, aeqK, agEq, scEq, boxVK, newVK, exc, vc_agg, vc_int, vc_bool, vc_str, vc_ptr, vc_sl, vc_fn, boxOf, adInf, List.reverse_cons, List.reverse_nil, List.nil_append, List.cons_append, extK, Bool.and_true, Bool.true_and, Bool.not_true, Bool.not_false, resT, resVs, resV, true_and, and_true, storeK, spl_nil, spl_z, spl_1, spl_2, spl_3, spl_4, spl_5, spl_6, spl_7, spl_8, scal_int, scal_bool, scal_str, scal_nil, implies_true, Bool.and_self, Post_ret, Post_normal, PostS_ret, PostS_normal, retT_true, retT_false, flat_bool, flat_int, flat_str, List.take_length, decide_true, decide_false, Option.some.injEq, Value.bool.injEq, Value.int.injEq, Bool.false_and, Bool.and_false, not_false_eq_true, not_true_eq_false, toIntK, List.length_set, Nat.reduceMul, Bool.not_eq_true, Bool.not_eq_false, List.all_cons, List.all_nil, exps, fillL, buildK, strK, nilcK, fnK, callVT, List.size_toArray, List.append_nil, List.singleton_append, boxOK, newOK, scal_nil, List.isEmpty_nil, List.isEmpty_cons, mkVK, mkOK, mkCells, zeros_0, zeros_1, zeros_2, zeros_3, zeros_4, List.map_cons, List.map_nil, h0, h4, wrap64 (((i + 1 : Nat) : Int) - 1) (by omega) (by omega)]
    refine go_loop (fun j t' => t'.H = t.H ∧ t'.ρ 0 = .val (.string s) ∧ t'.ρ 4 = .val (.int .i64 ((i + 1 : Nat) : Int)) ∧ t'.ρ 6 = .val (.int .i64 ((j : Int) - 1)) ∧ j ≤ i + 1 ∧ ∃ n : Nat, t'.ρ 5 = .val (.int .i64 n) ∧ n * 128 ^ j + valB s j = valB s (i + 1))
      (fun t' => t'.H = t.H ∧ t'.ρ 0 = .val (.string s) ∧ t'.ρ 4 = .val (.int .i64 ((i + 1 : Nat) : Int)) ∧ t'.ρ 5 = .val (.int .i64 ((valB s (i + 1) : Nat) : Int))) (i + 1) ?_ ?_ ?_
    · exact ⟨rfl, by simp [upd, h0], by simp [upd, h4], by simp [upd], Nat.le_refl _, 0, by simp [upd], by simp⟩
    · rintro j t' ⟨jH, j0, j4, j6, hj, n, j5, hv⟩
      simp only [go_nil, go_blk, go_skip, go_ret, go_exit, go_seq, go_block, go_reg, go_r0, go_r, go_d0, go_d, go_e0, go_e, box2, Option.isSome_some, Nat.le_refl, go_cond, go_o, go_g, aft_some, cnd_bool, grd_bool, grd_tup, brT_true, brT_false, brT_not, thr_exit, thr_c, thr_nil, stp, stepK, movK, mv1, ex, exv, exvs, upd_some, upd_none, ini, St.val, binK, binV, ofV, pickK, unK, unV, beqK, beq_true, beq_false, if_true, if_false, List.getElem?_cons_zero, List.getElem?_cons_succ, ↓reduceIte, Nat.reduceEqDiff, reduceCtorEq, loadK, adr, deref, Ad.fv, Ad.live, fadrK, List.length_cons, List.length_nil, List.drop_zero, List.drop_succ_cons, List.take_succ_cons, List.take_zero, Nat.reduceAdd, Nat.reduceLeDiff, Nat.zero_add, Nat.add_zero, aeqK, agEq, scEq, boxVK, newVK, exc, vc_agg, vc_int, vc_bool, vc_str, vc_ptr, vc_sl, vc_fn, boxOf, adInf, List.reverse_cons, List.reverse_nil, List.nil_append, List.cons_append, extK, Bool.and_true, Bool.true_and, Bool.not_true, Bool.not_false, resT, resVs, resV, true_and, and_true, storeK, spl_nil, spl_z, spl_1, spl_2, spl_3, spl_4, spl_5, spl_6, spl_7, spl_8, scal_int, scal_bool, scal_str, scal_nil, implies_true, Bool.and_self, Post_ret, Post_normal, PostS_ret, PostS_normal, retT_true, retT_false, flat_bool, flat_int, flat_str, List.take_length, decide_true, decide_false, Option.some.injEq, Value.bool.injEq, Value.int.injEq, Bool.false_and, Bool.and_false, not_false_eq_true, not_true_eq_false, toIntK, List.length_set, Nat.reduceMul, Bool.not_eq_true, Bool.not_eq_false, List.all_cons, List.all_nil, exps, fillL, buildK, strK, nilcK, fnK, callVT, List.size_toArray, List.append_nil, List.singleton_append, boxOK, newOK, scal_nil, List.isEmpty_nil, List.isEmpty_cons, mkVK, mkOK, mkCells, zeros_0, zeros_1, zeros_2, zeros_3, zeros_4, List.map_cons, List.map_nil, j0, j4, j5, j6]
      refine brT.intro (fun c3 => ?_) (fun c3 => ?_) <;> simp only [go_nil, go_blk, go_skip, go_ret, go_exit, go_seq, go_block, go_reg, go_r0, go_r, go_d0, go_d, go_e0, go_e, box2, Option.isSome_some, Nat.le_refl, go_cond, go_o, go_g, aft_some, cnd_bool, grd_bool, grd_tup, brT_true, brT_false, brT_not, thr_exit, thr_c, thr_nil, stp, stepK, movK, mv1, ex, exv, exvs, upd_some, upd_none, ini, St.val, binK, binV, ofV, pickK, unK, unV, beqK, beq_true, beq_false, if_true, if_false, List.getElem?_cons_zero, List.getElem?_cons_succ, ↓reduceIte, Nat.reduceEqDiff, reduceCtorEq, loadK, adr, deref, Ad.fv, Ad.live, fadrK, List.length_cons, List.length_nil, List.drop_zero, List.drop_succ_cons, List.take_succ_cons, List.take_zero, Nat.reduceAdd, Nat.reduceLeDiff, Nat.zero_add, Nat.add_zero, aeqK, agEq, scEq, boxVK, newVK, exc, vc_agg, vc_int, vc_bool, vc_str, vc_ptr, vc_sl, vc_fn, boxOf, adInf, List.reverse_cons, List.reverse_nil, List.nil_append, List.cons_append, extK, Bool.and_true, Bool.true_and, Bool.not_true, Bool.not_false, resT, resVs, resV, true_and, and_true, storeK, spl_nil, spl_z, spl_1, spl_2, spl_3, spl_4, spl_5, spl_6, spl_7, spl_8, scal_int, scal_bool, scal_str, scal_nil, implies_true, Bool.and_self, Post_ret, Post_normal, PostS_ret, PostS_normal, retT_true, retT_false, flat_bool, flat_int, flat_str, List.take_length, decide_true, decide_false, Option.some.injEq, Value.bool.injEq, Value.int.injEq, Bool.false_and, Bool.and_false, not_false_eq_true, not_true_eq_false, toIntK, List.length_set, Nat.reduceMul, Bool.not_eq_true, Bool.not_eq_false, List.all_cons, List.all_nil, exps, fillL, buildK, strK, nilcK, fnK, callVT, List.size_toArray, List.append_nil, List.singleton_append, boxOK, newOK, scal_nil, List.isEmpty_nil, List.isEmpty_cons, mkVK, mkOK, mkCells, zeros_0, zeros_1, zeros_2, zeros_3, zeros_4, List.map_cons, List.map_nil, j0, j4, j5, j6]
      · obtain ⟨j', rfl⟩ : ∃ j', j = j' + 1 := ⟨j - 1, by have := of_decide_eq_true c3; omega⟩
        obtain ⟨c, hc⟩ := byte_at (b := s) (i := j') (by omega)
        have j6' : ((j' + 1 : Nat) : Int) - 1 = (j' : Int) := by omega
        have hix := fun {t : St} {x y : X} => idx_at (s := t) (x := x) (y := y) hc
        have hcb : c.toNat < 256 := c.toNat_lt
        have hvs := valB_succ hc
        have hpw : 0 < (128 : Nat) ^ j' := Nat.pow_pos (by decide)
        have hn1 : (n * 128 + c.toNat % 128) * 128 ^ j' + valB s j' = valB s (i + 1) := by
          rw [Nat.add_mul, ← hv, hvs, Nat.pow_succ, Nat.mul_assoc, Nat.mul_comm 128]
          omega
        have hn2 : n * 128 + c.toNat % 128 ≤ valB s (i + 1) := le_of_mul (p := 128 ^ j') (by omega) hpw
        have t1 : Int.tmod ((c.toNat : Nat) : Int) 128 = ((c.toNat % 128 : Nat) : Int) := rfl
        simp only [go_nil, go_blk, go_skip, go_ret, go_exit, go_seq, go_block, go_reg, go_r0, go_r, go_d0, go_d, go_e0, go_e, box2, Option.isSome_some, Nat.le_refl, go_cond, go_o, go_g, aft_some, cnd_bool, grd_bool, grd_tup, brT_true, brT_false, brT_not, thr_exit, thr_c, thr_nil, stp, stepK, movK, mv1, ex, exv, exvs, upd_some, upd_none, ini, St.val, binK, binV, ofV, pickK, unK, unV, beqK, beq_true, beq_false, if_true, if_false, List.getElem?_cons_zero, List.getElem?_cons_succ, ↓reduceIte, Nat.reduceEqDiff, reduceCtorEq, loadK, adr, deref, Ad.fv, Ad.live, fadrK, List.length_cons, List.length_nil, List.drop_zero, List.drop_succ_cons, List.take_succ_cons, List.take_zero, Nat.reduceAdd, Nat.reduceLeDiff, Nat.zero_add, Nat.add_zero, aeqK, agEq, scEq, boxVK, newVK, exc, vc_agg, vc_int, vc_bool, vc_str, vc_ptr, vc_sl, vc_fn, boxOf, adInf, List.reverse_cons, List.reverse_nil, List.nil_append, List.cons_append, extK, Bool.and_true, Bool.true_and, Bool.not_true, Bool.not_false, resT, resVs, resV, true_and, and_true, storeK, spl_nil, spl_z, spl_1, spl_2, spl_3, spl_4, spl_5, spl_6, spl_7, spl_8, scal_int, scal_bool, scal_str, scal_nil, implies_true, Bool.and_self, Post_ret, Post_normal, PostS_ret, PostS_normal, retT_true, retT_false, flat_bool, flat_int, flat_str, List.take_length, decide_true, decide_false, Option.some.injEq, Value.bool.injEq, Value.int.injEq, Bool.false_and, Bool.and_false, not_false_eq_true, not_true_eq_false, toIntK, List.length_set, Nat.reduceMul, Bool.not_eq_true, Bool.not_eq_false, List.all_cons, List.all_nil, exps, fillL, buildK, strK, nilcK, fnK, callVT, List.size_toArray, List.append_nil, List.singleton_append, boxOK, newOK, scal_nil, List.isEmpty_nil, List.isEmpty_cons, mkVK, mkOK, mkCells, zeros_0, zeros_1, zeros_2, zeros_3, zeros_4, List.map_cons, List.map_nil, j0, j4, j5, j6, j6', hix, ne128, t1, wrap64 ((n : Int) * 128) (by omega) (by omega), wrap64 (((c.toNat : Nat) : Int)) (by omega) (by omega), wrap64 ((n : Int) * 128 + ((c.toNat % 128 : Nat) : Int)) (by omega) (by omega), wrap64 ((j' : Int) - 1) (by omega) (by omega)]
        exact ⟨j', by omega, jH, rfl, by omega, n * 128 + c.toNat % 128, by simp, hn1⟩
      · have : j = 0 := by have := of_decide_eq_false c3; omega
        subst this
        have : n = valB s (i + 1) := by simpa [valB] using hv
        subst this
        exact ⟨jH, rfl⟩
    · rintro t' ⟨jH, j0, j4, j5⟩
      have a94 := fun {m draw t d ts Q} => callT_at (m := m) (draw := draw) (s := t) (d := d) (ts := ts) (Q := Q) (f94 (H := t.H) (n := ((valB s (i + 1) : Nat) : Int)))
      have hsl := fun {t : St} {x y : X} => slc_to (s := t) (x := x) (y := y) his
      have wt := hw.pre hH
      simp only [go_nil, go_blk, go_skip, go_ret, go_exit, go_seq, go_block, go_reg, go_r0, go_r, go_d0, go_d, go_e0, go_e, box2, Option.isSome_some, Nat.le_refl, go_cond, go_o, go_g, aft_some, cnd_bool, grd_bool, grd_tup, brT_true, brT_false, brT_not, thr_exit, thr_c, thr_nil, stp, stepK, movK, mv1, ex, exv, exvs, upd_some, upd_none, ini, St.val, binK, binV, ofV, pickK, unK, unV, beqK, beq_true, beq_false, if_true, if_false, List.getElem?_cons_zero, List.getElem?_cons_succ, ↓reduceIte, Nat.reduceEqDiff, reduceCtorEq, loadK, adr, deref, Ad.fv, Ad.live, fadrK, List.length_cons, List.length_nil, List.drop_zero, List.drop_succ_cons, List.take_succ_cons, List.take_zero, Nat.reduceAdd, Nat.reduceLeDiff, Nat.zero_add, Nat.add_zero, aeqK, agEq, scEq, boxVK, newVK, exc, vc_agg, vc_int, vc_bool, vc_str, vc_ptr, vc_sl, vc_fn, boxOf, adInf, List.reverse_cons, List.reverse_nil, List.nil_append, List.cons_append, extK, Bool.and_true, Bool.true_and, Bool.not_true, Bool.not_false, resT, resVs, resV, true_and, and_true, storeK, spl_nil, spl_z, spl_1, spl_2, spl_3, spl_4, spl_5, spl_6, spl_7, spl_8, scal_int, scal_bool, scal_str, scal_nil, implies_true, Bool.and_self, Post_ret, Post_normal, PostS_ret, PostS_normal, retT_true, retT_false, flat_bool, flat_int, flat_str, List.take_length, decide_true, decide_false, Option.some.injEq, Value.bool.injEq, Value.int.injEq, Bool.false_and, Bool.and_false, not_false_eq_true, not_true_eq_false, toIntK, List.length_set, Nat.reduceMul, Bool.not_eq_true, Bool.not_eq_false, List.all_cons, List.all_nil, exps, fillL, buildK, strK, nilcK, fnK, callVT, List.size_toArray, List.append_nil, List.singleton_append, boxOK, newOK, scal_nil, List.isEmpty_nil, List.isEmpty_cons, mkVK, mkOK, mkCells, zeros_0, zeros_1, zeros_2, zeros_3, zeros_4, List.map_cons, List.map_nil]
      refine go_draw ?_
      simp only [go_nil, go_blk, go_skip, go_ret, go_exit, go_seq, go_block, go_reg, go_r0, go_r, go_d0, go_d, go_e0, go_e, box2, Option.isSome_some, Nat.le_refl, go_cond, go_o, go_g, aft_some, cnd_bool, grd_bool, grd_tup, brT_true, brT_false, brT_not, thr_exit, thr_c, thr_nil, stp, stepK, movK, mv1, ex, exv, exvs, upd_some, upd_none, ini, St.val, binK, binV, ofV, pickK, unK, unV, beqK, beq_true, beq_false, if_true, if_false, List.getElem?_cons_zero, List.getElem?_cons_succ, ↓reduceIte, Nat.reduceEqDiff, reduceCtorEq, loadK, adr, deref, Ad.fv, Ad.live, fadrK, List.length_cons, List.length_nil, List.drop_zero, List.drop_succ_cons, List.take_succ_cons, List.take_zero, Nat.reduceAdd, Nat.reduceLeDiff, Nat.zero_add, Nat.add_zero, aeqK, agEq, scEq, boxVK, newVK, exc, vc_agg, vc_int, vc_bool, vc_str, vc_ptr, vc_sl, vc_fn, boxOf, adInf, List.reverse_cons, List.reverse_nil, List.nil_append, List.cons_append, extK, Bool.and_true, Bool.true_and, Bool.not_true, Bool.not_false, resT, resVs, resV, true_and, and_true, storeK, spl_nil, spl_z, spl_1, spl_2, spl_3, spl_4, spl_5, spl_6, spl_7, spl_8, scal_int, scal_bool, scal_str, scal_nil, implies_true, Bool.and_self, Post_ret, Post_normal, PostS_ret, PostS_normal, retT_true, retT_false, flat_bool, flat_int, flat_str, List.take_length, decide_true, decide_false, Option.some.injEq, Value.bool.injEq, Value.int.injEq, Bool.false_and, Bool.and_false, not_false_eq_true, not_true_eq_false, toIntK, List.length_set, Nat.reduceMul, Bool.not_eq_true, Bool.not_eq_false, List.all_cons, List.all_nil, exps, fillL, buildK, strK, nilcK, fnK, callVT, List.size_toArray, List.append_nil, List.singleton_append, boxOK, newOK, scal_nil, List.isEmpty_nil, List.isEmpty_cons, mkVK, mkOK, mkCells, zeros_0, zeros_1, zeros_2, zeros_3, zeros_4, List.map_cons, List.map_nil, j0, j4, j5, a94, jH, wt, hsl]
      refine ⟨by rfl, ?_⟩
      refine brT.intro (fun c3 => ?_) (fun c3 => ?_) <;> simp only [go_nil, go_blk, go_skip, go_ret, go_exit, go_seq, go_block, go_reg, go_r0, go_r, go_d0, go_d, go_e0, go_e, box2, Option.isSome_some, Nat.le_refl, go_cond, go_o, go_g, aft_some, cnd_bool, grd_bool, grd_tup, brT_true, brT_false, brT_not, thr_exit, thr_c, thr_nil, stp, stepK, movK, mv1, ex, exv, exvs, upd_some, upd_none, ini, St.val, binK, binV, ofV, pickK, unK, unV, beqK, beq_true, beq_false, if_true, if_false, List.getElem?_cons_zero, List.getElem?_cons_succ, ↓reduceIte, Nat.reduceEqDiff, reduceCtorEq, loadK, adr, deref, Ad.fv, Ad.live, fadrK, List.length_cons, List.length_nil, List.drop_zero, List.drop_succ_cons, List.take_succ_cons, List.take_zero, Nat.reduceAdd, Nat.reduceLeDiff, Nat.zero_add, Nat.add_zero, aeqK, agEq, scEq, boxVK, newVK, exc, vc_agg, vc_int, vc_bool, vc_str, vc_ptr, vc_sl, vc_fn, boxOf, adInf, List.reverse_cons, List.reverse_nil, List.nil_append, List.cons_append, extK, Bool.and_true, Bool.true_and, Bool.not_true, Bool.not_false, resT, resVs, resV, true_and, and_true, storeK, spl_nil, spl_z, spl_1, spl_2, spl_3, spl_4, spl_5, spl_6, spl_7, spl_8, scal_int, scal_bool, scal_str, scal_nil, implies_true, Bool.and_self, Post_ret, Post_normal, PostS_ret, PostS_normal, retT_true, retT_false, flat_bool, flat_int, flat_str, List.take_length, decide_true, decide_false, Option.some.injEq, Value.bool.injEq, Value.int.injEq, Bool.false_and, Bool.and_false, not_false_eq_true, not_true_eq_false, toIntK, List.length_set, Nat.reduceMul, Bool.not_eq_true, Bool.not_eq_false, List.all_cons, List.all_nil, exps, fillL, buildK, strK, nilcK, fnK, callVT, List.size_toArray, List.append_nil, List.singleton_append, boxOK, newOK, scal_nil, List.isEmpty_nil, List.isEmpty_cons, mkVK, mkOK, mkCells, zeros_0, zeros_1, zeros_2, zeros_3, zeros_4, List.map_cons, List.map_nil, j0, j4, j5, jH, wrap64 (((i + 1 : Nat) : Int) + 1) (by omega) (by omega)]
      · have hv0 := of_decide_eq_true c3
        have hv : isV s (i + 1) := hv0
        have hr : readV s (valB s (i + 1)) (i + 1) := ⟨by omega, by omega, his, rfl, hv⟩
        rw [rdV_eq hr]
        exact ⟨rfl, pre_take hH⟩
      · have hv0 := of_decide_eq_false c3
        have hv : ¬ isV s (i + 1) := hv0
        refine ⟨hi7, hH, by simp, fun k h1 h2 => ?_⟩
        by_cases e : k = i + 1
        · subst e; exact hv
        · exact hn k (by omega) h2
  · rintro t ⟨hH, hn⟩
    simp only [go_nil, go_blk, go_skip, go_ret, go_exit, go_seq, go_block, go_reg, go_r0, go_r, go_d0, go_d, go_e0, go_e, box2, Option.isSome_some, Nat.le_refl, go_cond, go_o, go_g, aft_some, cnd_bool, grd_bool, grd_tup, brT_true, brT_false, brT_not, thr_exit, thr_c, thr_nil, stp, stepK, movK, mv1, ex, exv, exvs, upd_some, upd_none, ini, St.val, binK, binV, ofV, pickK, unK, unV, beqK, beq_true, beq_false, if_true, if_false, List.getElem?_cons_zero, List.getElem?_cons_succ, ↓reduceIte, Nat.reduceEqDiff, reduceCtorEq, loadK, adr, deref, Ad.fv, Ad.live, fadrK, List.length_cons, List.length_nil, List.drop_zero, List.drop_succ_cons, List.take_succ_cons, List.take_zero, Nat.reduceAdd, Nat.reduceLeDiff, Nat.zero_add, Nat.add_zero, aeqK, agEq, scEq, boxVK, newVK, exc, vc_agg, vc_int, vc_bool, vc_str, vc_ptr, vc_sl, vc_fn, boxOf, adInf, List.reverse_cons, List.reverse_nil, List.nil_append, List.cons_append, extK, Bool.and_true, Bool.true_and, Bool.not_true, Bool.not_false, resT, resVs, resV, true_and, and_true, storeK, spl_nil, spl_z, spl_1, spl_2, spl_3, spl_4, spl_5, spl_6, spl_7, spl_8, scal_int, scal_bool, scal_str, scal_nil, implies_true, Bool.and_self, Post_ret, Post_normal, PostS_ret, PostS_normal, retT_true, retT_false, flat_bool, flat_int, flat_str, List.take_length, decide_true, decide_false, Option.some.injEq, Value.bool.injEq, Value.int.injEq, Bool.false_and, Bool.and_false, not_false_eq_true, not_true_eq_false, toIntK, List.length_set, Nat.reduceMul, Bool.not_eq_true, Bool.not_eq_false, List.all_cons, List.all_nil, exps, fillL, buildK, strK, nilcK, fnK, callVT, List.size_toArray, List.append_nil, List.singleton_append, boxOK, newOK, scal_nil, List.isEmpty_nil, List.isEmpty_cons, mkVK, mkOK, mkCells, zeros_0, zeros_1, zeros_2, zeros_3, zeros_4, List.map_cons, List.map_nil]
    rw [rdV_none hn]
    exact ⟨rfl, pre_take hH⟩

theorem shl7 {d i : Nat} (hd : d < 128) (hi : i ≤ 6) : IntKind.i64.wrap (((d : Nat) : Int) * 2 ^ (min (Int.toNat ((7 * i : Nat) : Int)) IntKind.i64.bits)) = ((d * 128 ^ i : Nat) : Int) := by
  have e : min (Int.toNat ((7 * i : Nat) : Int)) IntKind.i64.bits = 7 * i := by
    rw [Int.toNat_natCast]
    show min (7 * i) 64 = 7 * i
    omega
  have hpow : (128 : Nat) ^ i = 2 ^ (7 * i) := by rw [show (128 : Nat) = 2 ^ 7 by decide, ← Nat.pow_mul]
  have hp : (128 : Nat) ^ i ≤ 128 ^ 6 := Nat.pow_le_pow_right (by decide) hi
  have h6 : (128 : Nat) ^ 6 = 4398046511104 := by decide
  have hm : d * 128 ^ i ≤ 127 * 128 ^ i := Nat.mul_le_mul_right _ (by omega)
  have e2 : ((d : Nat) : Int) * 2 ^ (7 * i) = ((d * 128 ^ i : Nat) : Int) := by rw [hpow]; push_cast; rfl
  rw [e, e2, wrap64 _ (by omega) (by generalize d * 128 ^ i = q at *; omega)]

theorem f128 {H : Hp} {s : ByteArray} (hs : s.size ≤ 4611686018427387904) : Scal EE 128 [.string s] H (.tuple #[.int .i64 ((rdV s).1 : Nat), .int .i64 ((rdV s).2 : Nat)]) := by
  refine scal_ok rfl rfl k128 (by simp [c128]) rfl fun m hw => ?_
  simp only [go_nil, go_blk, go_skip, go_ret, go_exit, go_seq, go_block, go_reg, go_r0, go_r, go_d0, go_d, go_e0, go_e, box2, Option.isSome_some, Nat.le_refl, go_cond, go_o, go_g, aft_some, cnd_bool, grd_bool, grd_tup, brT_true, brT_false, brT_not, thr_exit, thr_c, thr_nil, stp, stepK, movK, mv1, ex, exv, exvs, upd_some, upd_none, ini, St.val, binK, binV, ofV, pickK, unK, unV, beqK, beq_true, beq_false, if_true, if_false, List.getElem?_cons_zero, List.getElem?_cons_succ, ↓reduceIte, Nat.reduceEqDiff, reduceCtorEq, loadK, adr, deref, Ad.fv, Ad.live, fadrK, List.length_cons, List.length_nil, List.drop_zero, List.drop_succ_cons, List.take_succ_cons, List.take_zero, Nat.reduceAdd, Nat.reduceLeDiff, Nat.zero_add, Nat.add_zero, aeqK, agEq, scEq, boxVK, newVK, exc, vc_agg, vc_int, vc_bool, vc_str, vc_ptr, vc_sl, vc_fn, boxOf, adInf, List.reverse_cons, List.reverse_nil, List.nil_append, List.cons_append, extK, Bool.and_true, Bool.true_and, Bool.not_true, Bool.not_false, resT, resVs, resV, true_and, and_true, storeK, spl_nil, spl_z, spl_1, spl_2, spl_3, spl_4, spl_5, spl_6, spl_7, spl_8, scal_int, scal_bool, scal_str, scal_nil, implies_true, Bool.and_self, Post_ret, Post_normal, PostS_ret, PostS_normal, retT_true, retT_false, flat_bool, flat_int, flat_str, List.take_length, decide_true, decide_false, Option.some.injEq, Value.bool.injEq, Value.int.injEq, Bool.false_and, Bool.and_false, not_false_eq_true, not_true_eq_false, toIntK, List.length_set, Nat.reduceMul, Bool.not_eq_true, Bool.not_eq_false, List.all_cons, List.all_nil, exps, fillL, buildK, strK, nilcK, fnK, callVT, List.size_toArray, List.append_nil, List.singleton_append, boxOK, newOK, scal_nil, List.isEmpty_nil, List.isEmpty_cons, mkVK, mkOK, mkCells, zeros_0, zeros_1, zeros_2, zeros_3, zeros_4, List.map_cons, List.map_nil, c128]
  refine go_for 7 (fun i t => H <+: t.H ∧ t.ρ 0 = .val (.string s) ∧ t.ρ 5 = .val (.int .i64 i) ∧ t.ρ 4 = .val (.int .i64 ((valB s i : Nat) : Int)) ∧ i ≤ s.size ∧ ∀ k b, k < i → s[k]? = some b → 128 ≤ b.toNat)
    (fun t => H <+: t.H ∧ ∀ n k, ¬ readV s n k) ?_ ?_ ?_
  · exact ⟨List.prefix_refl _, by simp [upd, ini], by simp [upd], by simp [upd, valB], by omega, fun k b h => by omega⟩
  · rintro i t hi ⟨hH, h0, h5, h4, hil, hb⟩
    have nono : (7 ≤ i ∨ s.size ≤ i) → ∀ n k, ¬ readV s n k := fun h n k hr => by
      obtain ⟨r1, r2, r3, r4, r5⟩ := hr
      obtain ⟨b, hb2⟩ := byte_at (b := s) (i := k - 1) (by omega)
      have h1 := (isV_bits r1 r3 r5).2 b hb2
      have h2 := hb (k - 1) b (by omega) hb2
      omega
    simp only [go_nil, go_blk, go_skip, go_ret, go_exit, go_seq, go_block, go_reg, go_r0, go_r, go_d0, go_d, go_e0, go_e, box2, Option.isSome_some, Nat.le_refl, go_cond, go_o, go_g, aft_some, cnd_bool, grd_bool, grd_tup, brT_true, brT_false, brT_not, thr_exit, thr_c, thr_nil, stp, stepK, movK, mv1, ex, exv, exvs, upd_some, upd_none, ini, St.val, binK, binV, ofV, pickK, unK, unV, beqK, beq_true, beq_false, if_true, if_false, List.getElem?_cons_zero, List.getElem?_cons_succ, ↓reduceIte, Nat.reduceEqDiff, reduceCtorEq, loadK, adr, deref, Ad.fv, Ad.live, fadrK, List.length_cons, List.length_nil, List.drop_zero, List.drop_succ_cons, List.take_succ_cons, List.take_zero, Nat.reduceAdd, Nat.reduceLeDiff, Nat.zero_add, Nat.add_zero, aeqK, agEq, scEq, boxVK, newVK, exc, vc_agg, vc_int, vc_bool, vc_str, vc_ptr, vc_sl, vc_fn, boxOf, adInf, List.reverse_cons, List.reverse_nil, List.nil_append, List.cons_append, extK, Bool.and_true, Bool.true_and, Bool.not_true, Bool.not_false, resT, resVs, resV, true_and, and_true, storeK, spl_nil, spl_z, spl_1, spl_2, spl_3, spl_4, spl_5, spl_6, spl_7, spl_8, scal_int, scal_bool, scal_str, scal_nil, implies_true, Bool.and_self, Post_ret, Post_normal, PostS_ret, PostS_normal, retT_true, retT_false, flat_bool, flat_int, flat_str, List.take_length, decide_true, decide_false, Option.some.injEq, Value.bool.injEq, Value.int.injEq, Bool.false_and, Bool.and_false, not_false_eq_true, not_true_eq_false, toIntK, List.length_set, Nat.reduceMul, Bool.not_eq_true, Bool.not_eq_false, List.all_cons, List.all_nil, exps, fillL, buildK, strK, nilcK, fnK, callVT, List.size_toArray, List.append_nil, List.singleton_append, boxOK, newOK, scal_nil, List.isEmpty_nil, List.isEmpty_cons, mkVK, mkOK, mkCells, zeros_0, zeros_1, zeros_2, zeros_3, zeros_4, List.map_cons, List.map_nil, h0, h4, h5, lenTK]
    refine brT.intro (fun c1 => ?_) (fun c1 => ?_) <;> simp only [go_nil, go_blk, go_skip, go_ret, go_exit, go_seq, go_block, go_reg, go_r0, go_r, go_d0, go_d, go_e0, go_e, box2, Option.isSome_some, Nat.le_refl, go_cond, go_o, go_g, aft_some, cnd_bool, grd_bool, grd_tup, brT_true, brT_false, brT_not, thr_exit, thr_c, thr_nil, stp, stepK, movK, mv1, ex, exv, exvs, upd_some, upd_none, ini, St.val, binK, binV, ofV, pickK, unK, unV, beqK, beq_true, beq_false, if_true, if_false, List.getElem?_cons_zero, List.getElem?_cons_succ, ↓reduceIte, Nat.reduceEqDiff, reduceCtorEq, loadK, adr, deref, Ad.fv, Ad.live, fadrK, List.length_cons, List.length_nil, List.drop_zero, List.drop_succ_cons, List.take_succ_cons, List.take_zero, Nat.reduceAdd, Nat.reduceLeDiff, Nat.zero_add, Nat.add_zero, aeqK, agEq, scEq, boxVK, newVK, exc, vc_agg, vc_int, vc_bool, vc_str, vc_ptr, vc_sl, vc_fn, boxOf, adInf, List.reverse_cons, List.reverse_nil, List.nil_append, List.cons_append, extK, Bool.and_true, Bool.true_and, Bool.not_true, Bool.not_false, resT, resVs, resV, true_and, and_true, storeK, spl_nil, spl_z, spl_1, spl_2, spl_3, spl_4, spl_5, spl_6, spl_7, spl_8, scal_int, scal_bool, scal_str, scal_nil, implies_true, Bool.and_self, Post_ret, Post_normal, PostS_ret, PostS_normal, retT_true, retT_false, flat_bool, flat_int, flat_str, List.take_length, decide_true, decide_false, Option.some.injEq, Value.bool.injEq, Value.int.injEq, Bool.false_and, Bool.and_false, not_false_eq_true, not_true_eq_false, toIntK, List.length_set, Nat.reduceMul, Bool.not_eq_true, Bool.not_eq_false, List.all_cons, List.all_nil, exps, fillL, buildK, strK, nilcK, fnK, callVT, List.size_toArray, List.append_nil, List.singleton_append, boxOK, newOK, scal_nil, List.isEmpty_nil, List.isEmpty_cons, mkVK, mkOK, mkCells, zeros_0, zeros_1, zeros_2, zeros_3, zeros_4, List.map_cons, List.map_nil, c1, h0, h4, h5, lenTK]
    rotate_left
    · exact ⟨hH, nono (.inr (by have := of_decide_eq_false c1; omega))⟩
    refine brT.intro (fun c2 => ?_) (fun c2 => ?_) <;> simp only [go_nil, go_blk, go_skip, go_ret, go_exit, go_seq, go_block, go_reg, go_r0, go_r, go_d0, go_d, go_e0, go_e, box2, Option.isSome_some, Nat.le_refl, go_cond, go_o, go_g, aft_some, cnd_bool, grd_bool, grd_tup, brT_true, brT_false, brT_not, thr_exit, thr_c, thr_nil, stp, stepK, movK, mv1, ex, exv, exvs, upd_some, upd_none, ini, St.val, binK, binV, ofV, pickK, unK, unV, beqK, beq_true, beq_false, if_true, if_false, List.getElem?_cons_zero, List.getElem?_cons_succ, ↓reduceIte, Nat.reduceEqDiff, reduceCtorEq, loadK, adr, deref, Ad.fv, Ad.live, fadrK, List.length_cons, List.length_nil, List.drop_zero, List.drop_succ_cons, List.take_succ_cons, List.take_zero, Nat.reduceAdd, Nat.reduceLeDiff, Nat.zero_add, Nat.add_zero, aeqK, agEq, scEq, boxVK, newVK, exc, vc_agg, vc_int, vc_bool, vc_str, vc_ptr, vc_sl, vc_fn, boxOf, adInf, List.reverse_cons, List.reverse_nil, List.nil_append, List.cons_append, extK, Bool.and_true, Bool.true_and, Bool.not_true, Bool.not_false, resT, resVs, resV, true_and, and_true, storeK, spl_nil, spl_z, spl_1, spl_2, spl_3, spl_4, spl_5, spl_6, spl_7, spl_8, scal_int, scal_bool, scal_str, scal_nil, implies_true, Bool.and_self, Post_ret, Post_normal, PostS_ret, PostS_normal, retT_true, retT_false, flat_bool, flat_int, flat_str, List.take_length, decide_true, decide_false, Option.some.injEq, Value.bool.injEq, Value.int.injEq, Bool.false_and, Bool.and_false, not_false_eq_true, not_true_eq_false, toIntK, List.length_set, Nat.reduceMul, Bool.not_eq_true, Bool.not_eq_false, List.all_cons, List.all_nil, exps, fillL, buildK, strK, nilcK, fnK, callVT, List.size_toArray, List.append_nil, List.singleton_append, boxOK, newOK, scal_nil, List.isEmpty_nil, List.isEmpty_cons, mkVK, mkOK, mkCells, zeros_0, zeros_1, zeros_2, zeros_3, zeros_4, List.map_cons, List.map_nil, c1, c2, h0, h4, h5]
    rotate_left
    · exact ⟨hH, nono (.inl (by have := of_decide_eq_false c2; omega))⟩
    have hi7 : i < 7 := by have := of_decide_eq_true c2; omega
    have his : i < s.size := by have := of_decide_eq_true c1; omega
    obtain ⟨c, hc⟩ := byte_at his
    have hix := fun {t : St} {x y : X} => idx_at (s := t) (x := x) (y := y) hc
    have hcb : c.toNat < 256 := c.toNat_lt
    have t1 := and7u hcb
    have t2 : IntKind.i64.wrap (((c.toNat % 128 : Nat) : Int)) = ((c.toNat % 128 : Nat) : Int) := wrap64 _ (by omega) (by omega)
    have t3 : IntKind.i64.wrap (7 * (i : Int)) = ((7 * i : Nat) : Int) := by rw [wrap64 _ (by omega) (by omega)]; omega
    have t3n : ¬ (((7 * i : Nat) : Int) < 0) := by omega
    have t4 := shl7 (d := c.toNat % 128) (i := i) (by omega) (by omega)
    have t5 := orHi (valB_lt s i) (show c.toNat % 128 < 128 by omega) (show i ≤ 6 by omega)
    have hvs := valB_succ hc
    rw [← hvs] at t5
    have hvm := valB_max s (k := i + 1) (by omega)
    simp only [go_nil, go_blk, go_skip, go_ret, go_exit, go_seq, go_block, go_reg, go_r0, go_r, go_d0, go_d, go_e0, go_e, box2, Option.isSome_some, Nat.le_refl, go_cond, go_o, go_g, aft_some, cnd_bool, grd_bool, grd_tup, brT_true, brT_false, brT_not, thr_exit, thr_c, thr_nil, stp, stepK, movK, mv1, ex, exv, exvs, upd_some, upd_none, ini, St.val, binK, binV, ofV, pickK, unK, unV, beqK, beq_true, beq_false, if_true, if_false, List.getElem?_cons_zero, List.getElem?_cons_succ, ↓reduceIte, Nat.reduceEqDiff, reduceCtorEq, loadK, adr, deref, Ad.fv, Ad.live, fadrK, List.length_cons, List.length_nil, List.drop_zero, List.drop_succ_cons, List.take_succ_cons, List.take_zero, Nat.reduceAdd, Nat.reduceLeDiff, Nat.zero_add, Nat.add_zero, aeqK, agEq, scEq, boxVK, newVK, exc, vc_agg, vc_int, vc_bool, vc_str, vc_ptr, vc_sl, vc_fn, boxOf, adInf, List.reverse_cons, List.reverse_nil, List.nil_append, List.cons_append, extK, Bool.and_true, Bool.true_and, Bool.not_true, Bool.not_false, resT, resVs, resV, true_and, and_true, storeK, spl_nil, spl_z, spl_1, spl_2, spl_3, spl_4, spl_5, spl_6, spl_7, spl_8, scal_int, scal_bool, scal_str, scal_nil, implies_true, Bool.and_self, Post_ret, Post_normal, PostS_ret, PostS_normal, retT_true, retT_false, flat_bool, flat_int, flat_str, List.take_length, decide_true, decide_false, Option.some.injEq, Value.bool.injEq, Value.int.injEq, Bool.false_and, Bool.and_false, not_false_eq_true, not_true_eq_false, toIntK, List.length_set, Nat.reduceMul, Bool.not_eq_true, Bool.not_eq_false, List.all_cons, List.all_nil, exps, fillL, buildK, strK, nilcK, fnK, callVT, List.size_toArray, List.append_nil, List.singleton_append, boxOK, newOK, scal_nil, List.isEmpty_nil, List.isEmpty_cons, mkVK, mkOK, mkCells, zeros_0, zeros_1, zeros_2, zeros_3, zeros_4, List.map_cons, List.map_nil, h0, h4, h5, hix, t1, t2, t3, t3n, t4, t5]
    refine brT.intro (fun c3 => ?_) (fun c3 => ?_) <;> simp only [go_nil, go_blk, go_skip, go_ret, go_exit, go_seq, go_block, go_reg, go_r0, go_r, go_d0, go_d, go_e0, go_e, box2, Option.isSome_some, Nat.le_refl, go_cond, go_o, go_g, aft_some, cnd_bool, grd_bool, grd_tup, brT_true, brT_false, brT_not, thr_exit, thr_c, thr_nil, stp, stepK, movK, mv1, ex, exv, exvs, upd_some, upd_none, ini, St.val, binK, binV, ofV, pickK, unK, unV, beqK, beq_true, beq_false, if_true, if_false, List.getElem?_cons_zero, List.getElem?_cons_succ, ↓reduceIte, Nat.reduceEqDiff, reduceCtorEq, loadK, adr, deref, Ad.fv, Ad.live, fadrK, List.length_cons, List.length_nil, List.drop_zero, List.drop_succ_cons, List.take_succ_cons, List.take_zero, Nat.reduceAdd, Nat.reduceLeDiff, Nat.zero_add, Nat.add_zero, aeqK, agEq, scEq, boxVK, newVK, exc, vc_agg, vc_int, vc_bool, vc_str, vc_ptr, vc_sl, vc_fn, boxOf, adInf, List.reverse_cons, List.reverse_nil, List.nil_append, List.cons_append, extK, Bool.and_true, Bool.true_and, Bool.not_true, Bool.not_false, resT, resVs, resV, true_and, and_true, storeK, spl_nil, spl_z, spl_1, spl_2, spl_3, spl_4, spl_5, spl_6, spl_7, spl_8, scal_int, scal_bool, scal_str, scal_nil, implies_true, Bool.and_self, Post_ret, Post_normal, PostS_ret, PostS_normal, retT_true, retT_false, flat_bool, flat_int, flat_str, List.take_length, decide_true, decide_false, Option.some.injEq, Value.bool.injEq, Value.int.injEq, Bool.false_and, Bool.and_false, not_false_eq_true, not_true_eq_false, toIntK, List.length_set, Nat.reduceMul, Bool.not_eq_true, Bool.not_eq_false, List.all_cons, List.all_nil, exps, fillL, buildK, strK, nilcK, fnK, callVT, List.size_toArray, List.append_nil, List.singleton_append, boxOK, newOK, scal_nil, List.isEmpty_nil, List.isEmpty_cons, mkVK, mkOK, mkCells, zeros_0, zeros_1, zeros_2, zeros_3, zeros_4, List.map_cons, List.map_nil, c3, h0, h4, h5, wrap64 ((i : Int) + 1) (by omega) (by omega)]
    · have hlt : c.toNat < 128 := by have := of_decide_eq_true c3; omega
      have a99 := fun {m draw t d ts Q} => callT_at (m := m) (draw := draw) (s := t) (d := d) (ts := ts) (Q := Q) (f99 (H := t.H) (n := ((valB s (i + 1) : Nat) : Int)))
      have hsl : ∀ {t : St} {x y : X}, exv t.ρ x = some (.string s) → exv t.ρ y = some (.int .i64 ((i : Int) + 1)) → slcSK t x none (some y) = some (.val (.string (s.extract 0 (i + 1))), t) := fun {t x y} hx hy => slc_to (k := i + 1) (by omega) hx (by rw [hy]; rfl)
      have wt := hw.pre hH
      refine go_draw ?_
      simp only [go_nil, go_blk, go_skip, go_ret, go_exit, go_seq, go_block, go_reg, go_r0, go_r, go_d0, go_d, go_e0, go_e, box2, Option.isSome_some, Nat.le_refl, go_cond, go_o, go_g, aft_some, cnd_bool, grd_bool, grd_tup, brT_true, brT_false, brT_not, thr_exit, thr_c, thr_nil, stp, stepK, movK, mv1, ex, exv, exvs, upd_some, upd_none, ini, St.val, binK, binV, ofV, pickK, unK, unV, beqK, beq_true, beq_false, if_true, if_false, List.getElem?_cons_zero, List.getElem?_cons_succ, ↓reduceIte, Nat.reduceEqDiff, reduceCtorEq, loadK, adr, deref, Ad.fv, Ad.live, fadrK, List.length_cons, List.length_nil, List.drop_zero, List.drop_succ_cons, List.take_succ_cons, List.take_zero, Nat.reduceAdd, Nat.reduceLeDiff, Nat.zero_add, Nat.add_zero, aeqK, agEq, scEq, boxVK, newVK, exc, vc_agg, vc_int, vc_bool, vc_str, vc_ptr, vc_sl, vc_fn, boxOf, adInf, List.reverse_cons, List.reverse_nil, List.nil_append, List.cons_append, extK, Bool.and_true, Bool.true_and, Bool.not_true, Bool.not_false, resT, resVs, resV, true_and, and_true, storeK, spl_nil, spl_z, spl_1, spl_2, spl_3, spl_4, spl_5, spl_6, spl_7, spl_8, scal_int, scal_bool, scal_str, scal_nil, implies_true, Bool.and_self, Post_ret, Post_normal, PostS_ret, PostS_normal, retT_true, retT_false, flat_bool, flat_int, flat_str, List.take_length, decide_true, decide_false, Option.some.injEq, Value.bool.injEq, Value.int.injEq, Bool.false_and, Bool.and_false, not_false_eq_true, not_true_eq_false, toIntK, List.length_set, Nat.reduceMul, Bool.not_eq_true, Bool.not_eq_false, List.all_cons, List.all_nil, exps, fillL, buildK, strK, nilcK, fnK, callVT, List.size_toArray, List.append_nil, List.singleton_append, boxOK, newOK, scal_nil, List.isEmpty_nil, List.isEmpty_cons, mkVK, mkOK, mkCells, zeros_0, zeros_1, zeros_2, zeros_3, zeros_4, List.map_cons, List.map_nil, h0, h4, h5, a99, wt, hsl, wrap64 ((i : Int) + 1) (by omega) (by omega)]
      refine ⟨by rfl, ?_⟩
      refine brT.intro (fun c4 => ?_) (fun c4 => ?_) <;> simp only [go_nil, go_blk, go_skip, go_ret, go_exit, go_seq, go_block, go_reg, go_r0, go_r, go_d0, go_d, go_e0, go_e, box2, Option.isSome_some, Nat.le_refl, go_cond, go_o, go_g, aft_some, cnd_bool, grd_bool, grd_tup, brT_true, brT_false, brT_not, thr_exit, thr_c, thr_nil, stp, stepK, movK, mv1, ex, exv, exvs, upd_some, upd_none, ini, St.val, binK, binV, ofV, pickK, unK, unV, beqK, beq_true, beq_false, if_true, if_false, List.getElem?_cons_zero, List.getElem?_cons_succ, ↓reduceIte, Nat.reduceEqDiff, reduceCtorEq, loadK, adr, deref, Ad.fv, Ad.live, fadrK, List.length_cons, List.length_nil, List.drop_zero, List.drop_succ_cons, List.take_succ_cons, List.take_zero, Nat.reduceAdd, Nat.reduceLeDiff, Nat.zero_add, Nat.add_zero, aeqK, agEq, scEq, boxVK, newVK, exc, vc_agg, vc_int, vc_bool, vc_str, vc_ptr, vc_sl, vc_fn, boxOf, adInf, List.reverse_cons, List.reverse_nil, List.nil_append, List.cons_append, extK, Bool.and_true, Bool.true_and, Bool.not_true, Bool.not_false, resT, resVs, resV, true_and, and_true, storeK, spl_nil, spl_z, spl_1, spl_2, spl_3, spl_4, spl_5, spl_6, spl_7, spl_8, scal_int, scal_bool, scal_str, scal_nil, implies_true, Bool.and_self, Post_ret, Post_normal, PostS_ret, PostS_normal, retT_true, retT_false, flat_bool, flat_int, flat_str, List.take_length, decide_true, decide_false, Option.some.injEq, Value.bool.injEq, Value.int.injEq, Bool.false_and, Bool.and_false, not_false_eq_true, not_true_eq_false, toIntK, List.length_set, Nat.reduceMul, Bool.not_eq_true, Bool.not_eq_false, List.all_cons, List.all_nil, exps, fillL, buildK, strK, nilcK, fnK, callVT, List.size_toArray, List.append_nil, List.singleton_append, boxOK, newOK, scal_nil, List.isEmpty_nil, List.isEmpty_cons, mkVK, mkOK, mkCells, zeros_0, zeros_1, zeros_2, zeros_3, zeros_4, List.map_cons, List.map_nil, h0, h4, h5, wrap64 ((i : Int) + 1) (by omega) (by omega)]
      · have hv0 := of_decide_eq_true c4
        have hv : isV s (i + 1) := hv0
        have hr : readV s (valB s (i + 1)) (i + 1) := ⟨by omega, by omega, by omega, rfl, hv⟩
        rw [rdV_eq hr]
        exact ⟨rfl, pre_take hH⟩
      · have hv0 := of_decide_eq_false c4
        have hv : ¬ isV s (i + 1) := hv0
        have hn : ∀ n k, ¬ readV s n k := fun n k hr => by
          obtain ⟨r1, r2, r3, r4, r5⟩ := hr
          have hb2 := isV_bits r1 r3 r5
          rcases Nat.lt_trichotomy k (i + 1) with e | e | e
          · obtain ⟨b, hb3⟩ := byte_at (b := s) (i := k - 1) (by omega)
            have h1 := hb2.2 b hb3
            have h2 := hb (k - 1) b (by omega) hb3
            omega
          · subst e; exact hv r5
          · have := hb2.1 i c (by omega) hc
            omega
        rw [rdV_none hn]
        exact ⟨rfl, pre_take hH⟩
    · have hge : 128 ≤ c.toNat := by have := of_decide_eq_false c3; omega
      refine ⟨hi7, hH, by simp, by omega, fun k b hk hkb => ?_⟩
      by_cases e : k = i
      · subst e
        rw [hc] at hkb
        cases hkb
        exact hge
      · exact hb k b (by omega) hkb
  · rintro t ⟨hH, hn⟩
    simp only [go_nil, go_blk, go_skip, go_ret, go_exit, go_seq, go_block, go_reg, go_r0, go_r, go_d0, go_d, go_e0, go_e, box2, Option.isSome_some, Nat.le_refl, go_cond, go_o, go_g, aft_some, cnd_bool, grd_bool, grd_tup, brT_true, brT_false, brT_not, thr_exit, thr_c, thr_nil, stp, stepK, movK, mv1, ex, exv, exvs, upd_some, upd_none, ini, St.val, binK, binV, ofV, pickK, unK, unV, beqK, beq_true, beq_false, if_true, if_false, List.getElem?_cons_zero, List.getElem?_cons_succ, ↓reduceIte, Nat.reduceEqDiff, reduceCtorEq, loadK, adr, deref, Ad.fv, Ad.live, fadrK, List.length_cons, List.length_nil, List.drop_zero, List.drop_succ_cons, List.take_succ_cons, List.take_zero, Nat.reduceAdd, Nat.reduceLeDiff, Nat.zero_add, Nat.add_zero, aeqK, agEq, scEq, boxVK, newVK, exc, vc_agg, vc_int, vc_bool, vc_str, vc_ptr, vc_sl, vc_fn, boxOf, adInf, List.reverse_cons, List.reverse_nil, List.nil_append, List.cons_append, extK, Bool.and_true, Bool.true_and, Bool.not_true, Bool.not_false, resT, resVs, resV, true_and, and_true, storeK, spl_nil, spl_z, spl_1, spl_2, spl_3, spl_4, spl_5, spl_6, spl_7, spl_8, scal_int, scal_bool, scal_str, scal_nil, implies_true, Bool.and_self, Post_ret, Post_normal, PostS_ret, PostS_normal, retT_true, retT_false, flat_bool, flat_int, flat_str, List.take_length, decide_true, decide_false, Option.some.injEq, Value.bool.injEq, Value.int.injEq, Bool.false_and, Bool.and_false, not_false_eq_true, not_true_eq_false, toIntK, List.length_set, Nat.reduceMul, Bool.not_eq_true, Bool.not_eq_false, List.all_cons, List.all_nil, exps, fillL, buildK, strK, nilcK, fnK, callVT, List.size_toArray, List.append_nil, List.singleton_append, boxOK, newOK, scal_nil, List.isEmpty_nil, List.isEmpty_cons, mkVK, mkOK, mkCells, zeros_0, zeros_1, zeros_2, zeros_3, zeros_4, List.map_cons, List.map_nil]
    rw [rdV_none hn]
    exact ⟨rfl, pre_take hH⟩
end Go.Proofs.Ytpdkgbamakileaa.Ev

/- Terms: the program's way. -/
namespace Go.Proofs.Ytpdkgbamakileaa.Ev
set_option linter.all false
open Go
set_option maxRecDepth 4000

def isKey (k : Int) : Bool := decide (k ≥ 1) && decide (k ≤ 1000000)
theorem f97 {H : Hp} {a : Int} : Scal EE 97 [.int .i64 a] H (.bool (isKey a)) := by
  refine scal_ok rfl rfl k97 (by simp [c97]) rfl fun m hw => ?_
  simp only [go_sem, ↓reduceIte, Nat.reduceEqDiff, reduceCtorEq, Nat.reduceAdd, Nat.reduceLeDiff, Nat.reduceMul, c97, c112', hw]
  rfl
theorem c97' {m : Md} {draw : Bool} {s : St} {d : Option Nat} {ts : List Tk} {Q : Ex → St → Prop} {a : Int} (hw : Wr m s.H) :
    callT EE m draw 97 (some [.int .i64 a]) s d ts Q = go EE m ts { s with ρ := upd s.ρ d (.val (.bool (isKey a))) } Q := callT_at f97 rfl hw

/-- The number at a place; -1 without one. -/
noncomputable def vaN (s : ByteArray) (a : Nat) : Int := if (rdV (rest s a)).2 = 0 then -1 else ((rdV (rest s a)).1 : Nat)
theorem f119 {H : Hp} {s : ByteArray} {a : Nat} (hs : s.size ≤ 4611686018427387904) (ha : a ≤ s.size) : Scal EE 119 [.string s, .int .i64 a] H (.tuple #[.int .i64 (vaN s a), .int .i64 ((a + (rdV (rest s a)).2 : Nat) : Int)]) := by
  refine scal_ok rfl rfl k119 (by simp [c119]) rfl fun m hw => ?_
  have hsl := fun {t : St} {x y : X} => slc_rest (s := t) (x := x) (y := y) ha
  have hrs := rest_size s a
  have hr := rdV_le (rest s a)
  have a128 := fun {m draw t d ts Q} => callT_at (m := m) (draw := draw) (s := t) (d := d) (ts := ts) (Q := Q) (f128 (H := H) (s := rest s a) (by omega))
  simp only [go_sem, ↓reduceIte, Nat.reduceEqDiff, reduceCtorEq, Nat.reduceAdd, Nat.reduceLeDiff, Nat.reduceMul, c119, hsl, a128, hw, List.getElem?_toArray, ofV]
  refine brT.intro (fun h => ?_) (fun h => ?_) <;> simp only [go_sem, ↓reduceIte, Nat.reduceEqDiff, reduceCtorEq, Nat.reduceAdd, Nat.reduceLeDiff, Nat.reduceMul, wrap64 ((a : Int) + (((rdV (rest s a)).2 : Nat) : Int)) (by omega) (by omega)]
  · have h0 : (rdV (rest s a)).2 = 0 := by have := of_decide_eq_true h; omega
    unfold vaN
    rw [if_pos h0, h0]
    rfl
  · have h0 : ¬ (rdV (rest s a)).2 = 0 := by have := of_decide_eq_false h; omega
    unfold vaN
    rw [if_neg h0]
    rfl

def encT : Option Nat → Int
  | some e => (e : Int)
  | none => -1

theorem itr_none {f : Nat → Option Nat} : ∀ {i n e : Nat}, i ≤ n → itr f i e = none → itr f n e = none := fun {i n e} h hn => by
  induction n with
  | zero =>
    have : i = 0 := by omega
    subst this
    exact hn
  | succ n ih =>
    by_cases h2 : i = n + 1
    · subst h2; exact hn
    · rw [itr_succ, ih (by omega)]

theorem ch_eq {c : UInt8} {n : Nat} (h : n < 256) : ((c.toNat : Nat) : Int) = (n : Int) ↔ c = UInt8.ofNat n := by
  constructor
  · intro h2
    have h3 : c.toNat = n := by omega
    rw [← h3]
    simp
  · rintro rfl
    simp
    omega

theorem f120 {s : ByteArray} (hs : s.size ≤ 4611686018427387904) : ∀ (d : Nat), d ≤ 8 → ∀ {H : Hp} {a : Nat}, a ≤ 4611686018427387904 → Scal EE 120 [.string s, .int .i64 a, .int .i64 d] H (.int .i64 (encT (tmE s d a)))
  | 0, _, H, a, ha => by
    refine scal_ok rfl rfl k120 (by simp [c120]) rfl fun m hw => ?_
    simp only [go_sem, ↓reduceIte, Nat.reduceEqDiff, reduceCtorEq, Nat.reduceAdd, Nat.reduceLeDiff, Nat.reduceMul, c120, lenTK]
    refine brT.intro (fun h => ?_) (fun h => ?_) <;> simp only [go_sem, ↓reduceIte, Nat.reduceEqDiff, reduceCtorEq, Nat.reduceAdd, Nat.reduceLeDiff, Nat.reduceMul, h]
    · rfl
    · have hz : decide (((0 : Nat) : Int) < 1) = true := rfl
      simp only [go_sem, ↓reduceIte, Nat.reduceEqDiff, reduceCtorEq, Nat.reduceAdd, Nat.reduceLeDiff, Nat.reduceMul, hz]
      rfl
  | d + 1, hd, H, a, ha => by
    have ih : ∀ {H : Hp} {a : Nat}, a ≤ 4611686018427387904 → Scal EE 120 [.string s, .int .i64 a, .int .i64 d] H (.int .i64 (encT (tmE s d a))) := fun {H a} h => f120 hs d (by omega) h
    refine scal_ok rfl rfl k120 (by simp [c120]) rfl fun m hw => ?_
    have hz : decide (((d + 1 : Nat) : Int) < 1) = false := decide_eq_false (by omega)
    simp only [go_sem, ↓reduceIte, Nat.reduceEqDiff, reduceCtorEq, Nat.reduceAdd, Nat.reduceLeDiff, Nat.reduceMul, c120, lenTK]
    refine brT.intro (fun h => ?_) (fun h => ?_) <;> simp only [go_sem, ↓reduceIte, Nat.reduceEqDiff, reduceCtorEq, Nat.reduceAdd, Nat.reduceLeDiff, Nat.reduceMul, h, hz]
    · have hn : s[a]? = none := getElem?_neg s a (by show ¬ a < s.size; have := of_decide_eq_true h; omega)
      rw [tmE, tmStep, hn]
      rfl
    have hal : a < s.size := by have := of_decide_eq_false h; omega
    obtain ⟨c, hc⟩ := byte_at hal
    have hix := fun {t : St} {x y : X} => idx_at (s := t) (x := x) (y := y) hc
    have a119 := fun {m draw t d ts Q} => callT_at (m := m) (draw := draw) (s := t) (d := d) (ts := ts) (Q := Q) (f119 (H := H) (a := a + 1) hs (by omega))
    have e1 : ((a + 1 : Nat) : Int) = (a : Int) + 1 := by omega
    rw [e1] at a119
    have hr := rdV_le (rest s (a + 1))
    rw [rest_size] at hr
    have hT : tmE s (d + 1) a = tmStep s (tmE s d) a := rfl
    rw [hT, tmStep, hc]
    simp only
    have hN : vaN s (a + 1) = if (rdV (rest s (a + 1))).2 = 0 then -1 else ((rdV (rest s (a + 1))).1 : Int) := rfl
    generalize vaN s (a + 1) = N at hN a119
    generalize hp : rdV (rest s (a + 1)) = p at *
    obtain ⟨n, k⟩ := p
    simp only at hN hr a119 ⊢
    have dd : ∀ q : Nat, q < 256 → decide (((c.toNat : Nat) : Int) = (q : Int)) = decide (c = UInt8.ofNat q) := fun q hq => by rw [Bool.eq_iff_iff]; simp only [decide_eq_true_eq]; exact ch_eq hq
    have d97 : decide (((c.toNat : Nat) : Int) = 97) = decide (c = 97) := dd 97 (by decide)
    have d107 : decide (((c.toNat : Nat) : Int) = 107) = decide (c = 107) := dd 107 (by decide)
    have d108 : decide (((c.toNat : Nat) : Int) = 108) = decide (c = 108) := dd 108 (by decide)
    have d115 : decide (((c.toNat : Nat) : Int) = 115) = decide (c = 115) := dd 115 (by decide)
    have w1 : IntKind.i64.wrap ((a : Int) + 1) = (a : Int) + 1 := wrap64 _ (by omega) (by omega)
    have hNb : -1 ≤ N ∧ N ≤ 562949953421311 := by rw [hN]; split <;> omega
    have wd : IntKind.i64.wrap (((d + 1 : Nat) : Int) - 1) = (d : Int) := by rw [wrap64 _ (by omega) (by omega)]; omega
    simp only [go_sem, ↓reduceIte, Nat.reduceEqDiff, reduceCtorEq, Nat.reduceAdd, Nat.reduceLeDiff, Nat.reduceMul, hix, a119, hw, w1, List.getElem?_toArray, ofV, d97]
    have hNn : ¬ k = 0 → N = (n : Int) := fun h => by rw [hN, if_neg h]
    have hN0 : k = 0 → N = -1 := fun h => by rw [hN, if_pos h]
    refine brT.intro (fun h97 => ?_) (fun h97 => ?_) <;> simp only [go_sem, ↓reduceIte, Nat.reduceEqDiff, reduceCtorEq, Nat.reduceAdd, Nat.reduceLeDiff, Nat.reduceMul, d97, d107, c112', hw, hix]
    · have h97 : c = 97 := of_decide_eq_true h97
      refine brT.intro (fun q1 => ?_) (fun q1 => ?_) <;> simp only [go_sem, ↓reduceIte, Nat.reduceEqDiff, reduceCtorEq, Nat.reduceAdd, Nat.reduceLeDiff, Nat.reduceMul, q1, lenTK, wrap64 ((s.size : Int) - ((a + 1 + k : Nat) : Int)) (by omega) (by omega)]
      · have q1' : 0 ≤ N ∧ N ≤ 40 := by simpa using q1
        have hk : ¬ k = 0 := fun e => by have := hN0 e; omega
        have hn := hNn hk
        refine brT.intro (fun q2 => ?_) (fun q2 => ?_) <;> simp only [go_sem, ↓reduceIte, Nat.reduceEqDiff, reduceCtorEq, Nat.reduceAdd, Nat.reduceLeDiff, Nat.reduceMul, q1, wrap64 (((a + 1 + k : Nat) : Int) + N) (by omega) (by omega)]
        · have q2' := of_decide_eq_true q2
          rw [if_neg hk, if_pos h97, if_neg (by omega)]
          rfl
        · have q2' := of_decide_eq_false q2
          rw [if_neg hk, if_pos h97, if_pos (by omega)]
          simp only [encT]
          omega
      · have q1' : ¬ (0 ≤ N ∧ N ≤ 40) := by simpa using q1
        by_cases hk : k = 0
        · rw [if_pos hk]; rfl
        · have hn := hNn hk
          rw [if_neg hk, if_pos h97, if_neg (by omega)]
          rfl
    have h97 : ¬ c = 97 := of_decide_eq_false h97
    refine brT.intro (fun h107 => ?_) (fun h107 => ?_) <;> simp only [go_sem, ↓reduceIte, Nat.reduceEqDiff, reduceCtorEq, Nat.reduceAdd, Nat.reduceLeDiff, Nat.reduceMul, d107, d108, c97', hw, hix]
    · have h107 : c = 107 := of_decide_eq_true h107
      refine brT.intro (fun q1 => ?_) (fun q1 => ?_) <;> simp only [go_sem, ↓reduceIte, Nat.reduceEqDiff, reduceCtorEq, Nat.reduceAdd, Nat.reduceLeDiff, Nat.reduceMul]
      · have q1' : 1 ≤ N ∧ N ≤ 1000000 := by simpa [isKey] using q1
        have hk : ¬ k = 0 := fun e => by have := hN0 e; omega
        have hn := hNn hk
        rw [if_neg hk, if_neg h97, if_pos h107, if_pos (by omega)]
        rfl
      · have q1' : ¬ (1 ≤ N ∧ N ≤ 1000000) := by simpa [isKey] using q1
        by_cases hk : k = 0
        · rw [if_pos hk]; rfl
        · have hn := hNn hk
          rw [if_neg hk, if_neg h97, if_pos h107, if_neg (by omega)]
          rfl
    have h107 : ¬ c = 107 := of_decide_eq_false h107
    refine brT.intro (fun h108 => ?_) (fun h108 => ?_) <;> simp only [go_sem, ↓reduceIte, Nat.reduceEqDiff, reduceCtorEq, Nat.reduceAdd, Nat.reduceLeDiff, Nat.reduceMul, d108, d115, c112', hw, hix]
    · have h108 : c = 108 := of_decide_eq_true h108
      refine brT.intro (fun q1 => ?_) (fun q1 => ?_) <;> simp only [go_sem, ↓reduceIte, Nat.reduceEqDiff, reduceCtorEq, Nat.reduceAdd, Nat.reduceLeDiff, Nat.reduceMul]
      · have q1' : 0 ≤ N ∧ N ≤ 12 := by simpa using q1
        have hk : ¬ k = 0 := fun e => by have := hN0 e; omega
        have hn := hNn hk
        rw [if_neg hk, if_neg h97, if_neg h107, if_pos h108, if_pos (by omega)]
        refine go_for n (fun i t => t.H = H ∧ t.ρ 0 = .val (.string s) ∧ t.ρ 2 = .val (.int .i64 ((d + 1 : Nat) : Int)) ∧ t.ρ 7 = .val (.int .i64 N) ∧ t.ρ 9 = .val (.int .i64 i) ∧ t.ρ 8 = .val (.int .i64 (encT (itr (tmE s d) i (a + 1 + k)))))
          (fun t => t.H = H ∧ t.ρ 8 = .val (.int .i64 (encT (itr (tmE s d) n (a + 1 + k))))) ?_ ?_ ?_
        · exact ⟨rfl, by simp [upd, ini], by simp [upd, ini], by simp [upd], by simp [upd], by simp [upd, itr, encT]⟩
        · rintro i t hi ⟨hH, h0, h2, h7, h9, h8⟩
          simp only [go_sem, ↓reduceIte, Nat.reduceEqDiff, reduceCtorEq, Nat.reduceAdd, Nat.reduceLeDiff, Nat.reduceMul, h0, h2, h7, h8, h9]
          refine brT.intro (fun q2 => ?_) (fun q2 => ?_) <;> simp only [go_sem, ↓reduceIte, Nat.reduceEqDiff, reduceCtorEq, Nat.reduceAdd, Nat.reduceLeDiff, Nat.reduceMul, q2, h0, h2, h7, h8, h9]
          · have hin : i < n := by have := of_decide_eq_true q2; omega
            cases hit : itr (tmE s d) i (a + 1 + k) with
            | none =>
              have : decide (encT none ≥ 0) = false := rfl
              simp only [go_sem, ↓reduceIte, Nat.reduceEqDiff, reduceCtorEq, Nat.reduceAdd, Nat.reduceLeDiff, Nat.reduceMul, this, h0, h2, h7, h8, h9]
              exact ⟨hH, by rw [itr_none (Nat.le_of_lt hin) hit, hit]⟩
            | some e =>
              have he := itr_le (s := s) (f := tmE s d) (fun a e h => tmE_le h) (by omega) hit
              have : decide (encT (some e) ≥ 0) = true := decide_eq_true (by simp [encT])
              have hh8 : t.ρ 8 = .val (.int .i64 (e : Int)) := by rw [h8, hit]; rfl
              have a120 := fun {m draw t d' ts Q} => callT_at (m := m) (draw := draw) (s := t) (d := d') (ts := ts) (Q := Q) (ih (H := H) (a := e) (by omega))
              simp only [go_sem, ↓reduceIte, Nat.reduceEqDiff, reduceCtorEq, Nat.reduceAdd, Nat.reduceLeDiff, Nat.reduceMul, this, h0, h2, h7, hh8, h9, wd, hH, a120, hw, wrap64 ((i : Int) + 1) (by omega) (by omega)]
              refine ⟨hin, by simp, ?_⟩
              rw [itr_succ, hit]
          · have hin : i = n := by have := of_decide_eq_false q2; omega
            subst hin
            exact ⟨hH, rfl⟩
        · rintro t ⟨hH, h8⟩
          simp only [go_sem, ↓reduceIte, Nat.reduceEqDiff, reduceCtorEq, Nat.reduceAdd, Nat.reduceLeDiff, Nat.reduceMul, h8, hH]
      · have q1' : ¬ (0 ≤ N ∧ N ≤ 12) := by simpa using q1
        by_cases hk : k = 0
        · rw [if_pos hk]; rfl
        · have hn := hNn hk
          rw [if_neg hk, if_neg h97, if_neg h107, if_pos h108, if_neg (by omega)]
          rfl
    have h108 : ¬ c = 108 := of_decide_eq_false h108
    refine brT.intro (fun h115 => ?_) (fun h115 => ?_) <;> simp only [go_sem, ↓reduceIte, Nat.reduceEqDiff, reduceCtorEq, Nat.reduceAdd, Nat.reduceLeDiff, Nat.reduceMul, d115, c97', hw, hix]
    · have h115 : c = 115 := of_decide_eq_true h115
      refine brT.intro (fun q1 => ?_) (fun q1 => ?_) <;> simp only [go_sem, ↓reduceIte, Nat.reduceEqDiff, reduceCtorEq, Nat.reduceAdd, Nat.reduceLeDiff, Nat.reduceMul]
      · have q1' : 1 ≤ N ∧ N ≤ 1000000 := by simpa [isKey] using q1
        have hk : ¬ k = 0 := fun e => by have := hN0 e; omega
        have hn := hNn hk
        have a120 := fun {m draw t d' ts Q} => callT_at (m := m) (draw := draw) (s := t) (d := d') (ts := ts) (Q := Q) (ih (H := H) (a := a + 1 + k) (by omega))
        simp only [go_sem, ↓reduceIte, Nat.reduceEqDiff, reduceCtorEq, Nat.reduceAdd, Nat.reduceLeDiff, Nat.reduceMul, wd, a120, hw]
        rw [if_neg hk, if_neg h97, if_neg h107, if_neg h108, if_pos h115, if_pos (by omega)]
      · have q1' : ¬ (1 ≤ N ∧ N ≤ 1000000) := by simpa [isKey] using q1
        by_cases hk : k = 0
        · rw [if_pos hk]; rfl
        · have hn := hNn hk
          rw [if_neg hk, if_neg h97, if_neg h107, if_neg h108, if_pos h115, if_neg (by omega)]
          rfl
    have h115 : ¬ c = 115 := of_decide_eq_false h115
    by_cases hk : k = 0
    · rw [if_pos hk]; rfl
    · rw [if_neg hk, if_neg h97, if_neg h107, if_neg h108, if_neg h115]
      rfl
end Go.Proofs.Ytpdkgbamakileaa.Ev

/- Terms: the reference's way; what is a term. -/
namespace Go.Proofs.Ytpdkgbamakileaa.Ev
set_option linter.all false
open Go
set_option maxRecDepth 4000

/-- A function that leaves memory as it is and answers so. -/
def ScalP (E : Env) (f : Nat) (vs : List Value) (H : Hp) (P : Value → Prop) : Prop := ∀ m : Md, Wr m H → Fun E m f vs H fun r H' => P r ∧ H' = H
theorem scalP_ok {E : Env} {f : Nat} {cf : CF} {vs : List Value} {H : Hp} {P : Value → Prop} (ht : E.tr f = true) (hp : E.prim f = none) (hf : E.fns f = some cf) (hl : vs.length ≤ cf.nt)
    (h : ∀ m : Md, Wr m H → go E m [.c cf.body] { ρ := ini vs, gn := 0, H := H } (Post cf.res true H fun r H' => P r ∧ H' = H)) : ScalP E f vs H P :=
  fun m hw => fun_ok ht hp hf hl (h _ hw)

def lenE (a : Nat) : Option Nat → Int
  | some e => (e : Int) - a
  | none => 0

theorem f126 {s : ByteArray} (hs : s.size ≤ 4611686018427387904) : ∀ (d : Nat), d ≤ 8 → ∀ {H : Hp} {a : Nat}, a ≤ 4611686018427387904 → ScalP EE 126 [.string s, .int .i64 a, .int .i64 d] H fun r => ∃ dd : Int, r = .tuple #[.int .i64 (lenE a (tmE s d a)), .int .i64 dd]
  | 0, _, H, a, ha => by
    refine scalP_ok rfl rfl k126 (by simp [c126]) fun m hw => ?_
    simp only [go_sem, ↓reduceIte, Nat.reduceEqDiff, reduceCtorEq, Nat.reduceAdd, Nat.reduceLeDiff, Nat.reduceMul, c126, lenTK]
    refine brT.intro (fun h => ?_) (fun h => ?_) <;> simp only [go_sem, ↓reduceIte, Nat.reduceEqDiff, reduceCtorEq, Nat.reduceAdd, Nat.reduceLeDiff, Nat.reduceMul, h]
    · exact ⟨rfl, 0, rfl⟩
    · have hz : decide (((0 : Nat) : Int) < 1) = true := rfl
      simp only [go_sem, ↓reduceIte, Nat.reduceEqDiff, reduceCtorEq, Nat.reduceAdd, Nat.reduceLeDiff, Nat.reduceMul, hz]
      exact ⟨rfl, 0, rfl⟩
  | d + 1, hd, H, a, ha => by
    have ih : ∀ {H : Hp} {a : Nat}, a ≤ 4611686018427387904 → ScalP EE 126 [.string s, .int .i64 a, .int .i64 d] H fun r => ∃ dd : Int, r = .tuple #[.int .i64 (lenE a (tmE s d a)), .int .i64 dd] := fun {H a} h => f126 hs d (by omega) h
    refine scalP_ok rfl rfl k126 (by simp [c126]) fun m hw => ?_
    have hz : decide (((d + 1 : Nat) : Int) < 1) = false := decide_eq_false (by omega)
    have hT : tmE s (d + 1) a = tmStep s (tmE s d) a := rfl
    rw [hT, tmStep]
    simp only [go_sem, ↓reduceIte, Nat.reduceEqDiff, reduceCtorEq, Nat.reduceAdd, Nat.reduceLeDiff, Nat.reduceMul, c126, lenTK]
    refine brT.intro (fun h => ?_) (fun h => ?_) <;> simp only [go_sem, ↓reduceIte, Nat.reduceEqDiff, reduceCtorEq, Nat.reduceAdd, Nat.reduceLeDiff, Nat.reduceMul, h, hz]
    · have hn : s[a]? = none := getElem?_neg s a (by show ¬ a < s.size; have := of_decide_eq_true h; omega)
      rw [hn]
      exact ⟨rfl, 0, rfl⟩
    have hal : a < s.size := by have := of_decide_eq_false h; omega
    obtain ⟨c, hc⟩ := byte_at hal
    rw [hc]
    simp only
    have hix := fun {t : St} {x y : X} => idx_at (s := t) (x := x) (y := y) hc
    have hrs := rest_size s (a + 1)
    have a127 := fun {m draw t d ts Q} => callT_at (m := m) (draw := draw) (s := t) (d := d) (ts := ts) (Q := Q) (f127 (H := H) (s := rest s (a + 1)) (by omega))
    have hsl : ∀ {t : St} {x y : X}, exv t.ρ x = some (.string s) → exv t.ρ y = some (.int .i64 ((a : Int) + 1)) → slcSK t x (some y) none = some (.val (.string (rest s (a + 1))), t) := fun {t x y} hx hy => slc_rest (k := a + 1) (by omega) hx (by rw [hy]; rfl)
    have hr := rdV_le (rest s (a + 1))
    rw [rest_size] at hr
    generalize hp : rdV (rest s (a + 1)) = p at *
    obtain ⟨n, k⟩ := p
    simp only at hr a127 ⊢
    have dd : ∀ q : Nat, q < 256 → decide (((c.toNat : Nat) : Int) = (q : Int)) = decide (c = UInt8.ofNat q) := fun q hq => by rw [Bool.eq_iff_iff]; simp only [decide_eq_true_eq]; exact ch_eq hq
    have d97 : decide (((c.toNat : Nat) : Int) = 97) = decide (c = 97) := dd 97 (by decide)
    have d107 : decide (((c.toNat : Nat) : Int) = 107) = decide (c = 107) := dd 107 (by decide)
    have d108 : decide (((c.toNat : Nat) : Int) = 108) = decide (c = 108) := dd 108 (by decide)
    have d115 : decide (((c.toNat : Nat) : Int) = 115) = decide (c = 115) := dd 115 (by decide)
    have w1 : IntKind.i64.wrap ((a : Int) + 1) = (a : Int) + 1 := wrap64 _ (by omega) (by omega)
    have w2 : IntKind.i64.wrap ((a : Int) + 1 + (k : Int)) = ((a + 1 + k : Nat) : Int) := by rw [wrap64 _ (by omega) (by omega)]; omega
    have w3 : IntKind.i64.wrap (1 + (k : Int)) = 1 + (k : Int) := wrap64 _ (by omega) (by omega)
    have wd : IntKind.i64.wrap (((d + 1 : Nat) : Int) - 1) = (d : Int) := by rw [wrap64 _ (by omega) (by omega)]; omega
    simp only [go_sem, ↓reduceIte, Nat.reduceEqDiff, reduceCtorEq, Nat.reduceAdd, Nat.reduceLeDiff, Nat.reduceMul, hix, hsl, a127, hw, w1, w2, List.getElem?_toArray, ofV]
    refine brT.intro (fun hk => ?_) (fun hk => ?_) <;> simp only [go_sem, ↓reduceIte, Nat.reduceEqDiff, reduceCtorEq, Nat.reduceAdd, Nat.reduceLeDiff, Nat.reduceMul, hix, w1, w2, d97]
    · have hk : k = 0 := by have := of_decide_eq_true hk; omega
      rw [if_pos hk]
      exact ⟨rfl, 0, rfl⟩
    have hk : ¬ k = 0 := by have := of_decide_eq_false hk; omega
    rw [if_neg hk]
    refine brT.intro (fun h97 => ?_) (fun h97 => ?_) <;> simp only [go_sem, ↓reduceIte, Nat.reduceEqDiff, reduceCtorEq, Nat.reduceAdd, Nat.reduceLeDiff, Nat.reduceMul, d97, d107, c90', hw, hix, w3]
    · have h97 : c = 97 := of_decide_eq_true h97
      rw [if_pos h97]
      refine brT.intro (fun q1 => ?_) (fun q1 => ?_) <;> simp only [go_sem, ↓reduceIte, Nat.reduceEqDiff, reduceCtorEq, Nat.reduceAdd, Nat.reduceLeDiff, Nat.reduceMul, q1, w3, lenTK, wrap64 ((s.size : Int) - ((a + 1 + k : Nat) : Int)) (by omega) (by omega)]
      · have q1' := of_decide_eq_true q1
        rw [if_neg (by omega)]
        exact ⟨rfl, 0, rfl⟩
      · have q1' := of_decide_eq_false q1
        refine brT.intro (fun q2 => ?_) (fun q2 => ?_) <;> simp only [go_sem, ↓reduceIte, Nat.reduceEqDiff, reduceCtorEq, Nat.reduceAdd, Nat.reduceLeDiff, Nat.reduceMul, q1, w3, wrap64 (1 + (k : Int) + (n : Int)) (by omega) (by omega)]
        · have q2' := of_decide_eq_true q2
          rw [if_neg (by omega)]
          exact ⟨rfl, 0, rfl⟩
        · have q2' := of_decide_eq_false q2
          rw [if_pos (by omega)]
          refine ⟨rfl, 1, ?_⟩
          have : lenE a (some (a + 1 + k + n)) = 1 + (k : Int) + (n : Int) := by simp only [lenE]; omega
          rw [this]
    have h97 : ¬ c = 97 := of_decide_eq_false h97
    rw [if_neg h97]
    refine brT.intro (fun h107 => ?_) (fun h107 => ?_) <;> simp only [go_sem, ↓reduceIte, Nat.reduceEqDiff, reduceCtorEq, Nat.reduceAdd, Nat.reduceLeDiff, Nat.reduceMul, d107, d115, c90', hw, hix, w3]
    · have h107 : c = 107 := of_decide_eq_true h107
      rw [if_pos h107]
      refine brT.intro (fun q1 => ?_) (fun q1 => ?_) <;> simp only [go_sem, ↓reduceIte, Nat.reduceEqDiff, reduceCtorEq, Nat.reduceAdd, Nat.reduceLeDiff, Nat.reduceMul, w3]
      · have q1' : 1 ≤ (n : Int) ∧ (n : Int) ≤ 1000000 := by simpa using q1
        rw [if_pos (by omega)]
        refine ⟨rfl, 1, ?_⟩
        have : lenE a (some (a + 1 + k)) = 1 + (k : Int) := by simp only [lenE]; omega
        rw [this]
      · have q1' : ¬ (1 ≤ (n : Int) ∧ (n : Int) ≤ 1000000) := by simpa using q1
        rw [if_neg (by omega)]
        exact ⟨rfl, 0, rfl⟩
    have h107 : ¬ c = 107 := of_decide_eq_false h107
    rw [if_neg h107]
    refine brT.intro (fun h115 => ?_) (fun h115 => ?_) <;> simp only [go_sem, ↓reduceIte, Nat.reduceEqDiff, reduceCtorEq, Nat.reduceAdd, Nat.reduceLeDiff, Nat.reduceMul, d115, d108, wd, hix]
    · have h115 : c = 115 := of_decide_eq_true h115
      have h108 : ¬ c = 108 := by rw [h115]; decide
      rw [if_neg h108, if_pos h115]
      refine callT_to (fun m' h => ih (H := H) (a := a + 1 + k) (by omega) m' h) rfl hw fun r1 H1 ⟨⟨dd1, e1⟩, e2⟩ => ?_
      subst e1
      have e2 : H1 = H := e2
      subst e2
      simp only [go_sem, ↓reduceIte, Nat.reduceEqDiff, reduceCtorEq, Nat.reduceAdd, Nat.reduceLeDiff, Nat.reduceMul, List.getElem?_toArray, ofV]
      cases hf : tmE s d (a + 1 + k) with
      | none =>
        have z1 : decide (lenE (a + 1 + k) none = 0) = true := rfl
        simp only [go_sem, ↓reduceIte, Nat.reduceEqDiff, reduceCtorEq, Nat.reduceAdd, Nat.reduceLeDiff, Nat.reduceMul, z1]
        refine ⟨rfl, 0, ?_⟩
        split <;> rfl
      | some e =>
        have he := tmE_le hf
        have z1 : decide (lenE (a + 1 + k) (some e) = 0) = false := decide_eq_false (by simp only [lenE]; omega)
        simp only [go_sem, ↓reduceIte, Nat.reduceEqDiff, reduceCtorEq, Nat.reduceAdd, Nat.reduceLeDiff, Nat.reduceMul, z1, c90', hw]
        have wl : IntKind.i64.wrap (1 + (k : Int) + lenE (a + 1 + k) (some e)) = 1 + (k : Int) + lenE (a + 1 + k) (some e) := wrap64 _ (by simp only [lenE]; omega) (by simp only [lenE]; omega)
        refine brT.intro (fun q1 => ?_) (fun q1 => ?_) <;> simp only [go_sem, ↓reduceIte, Nat.reduceEqDiff, reduceCtorEq, Nat.reduceAdd, Nat.reduceLeDiff, Nat.reduceMul, z1, q1, w3, wl]
        · have q1' : 1 ≤ (n : Int) ∧ (n : Int) ≤ 1000000 := by simpa using q1
          rw [if_pos (by omega)]
          have : lenE a (some e) = 1 + (k : Int) + lenE (a + 1 + k) (some e) := by simp only [lenE]; omega
          rw [this]
          exact ⟨rfl, _, rfl⟩
        · have q1' : ¬ (1 ≤ (n : Int) ∧ (n : Int) ≤ 1000000) := by simpa using q1
          rw [if_neg (by omega)]
          exact ⟨rfl, 0, rfl⟩
    have h115 : ¬ c = 115 := of_decide_eq_false h115
    refine brT.intro (fun h108 => ?_) (fun h108 => ?_) <;> simp only [go_sem, ↓reduceIte, Nat.reduceEqDiff, reduceCtorEq, Nat.reduceAdd, Nat.reduceLeDiff, Nat.reduceMul, d108, hix]
    rotate_left
    · have h108 : ¬ c = 108 := of_decide_eq_false h108
      rw [if_neg h108, if_neg h115]
      exact ⟨rfl, 0, rfl⟩
    have h108 : c = 108 := of_decide_eq_true h108
    rw [if_pos h108]
    refine brT.intro (fun q1 => ?_) (fun q1 => ?_) <;> simp only [go_sem, ↓reduceIte, Nat.reduceEqDiff, reduceCtorEq, Nat.reduceAdd, Nat.reduceLeDiff, Nat.reduceMul]
    · have q1' := of_decide_eq_true q1
      rw [if_neg (by omega)]
      exact ⟨rfl, 0, rfl⟩
    have q1' := of_decide_eq_false q1
    rw [if_pos (show n ≤ 12 by omega)]
    refine go_for n (fun i t => t.H = H ∧ t.ρ 0 = .val (.string s) ∧ t.ρ 1 = .val (.int .i64 a) ∧ t.ρ 2 = .val (.int .i64 ((d + 1 : Nat) : Int)) ∧ t.ρ 8 = .val (.int .i64 n) ∧ t.ρ 14 = .val (.int .i64 i) ∧ (∃ dp : Int, t.ρ 13 = .val (.int .i64 dp)) ∧ ∃ e : Nat, t.ρ 10 = .val (.int .i64 e) ∧ itr (tmE s d) i (a + 1 + k) = some e)
      (fun t => t.H = H ∧ t.ρ 1 = .val (.int .i64 a) ∧ (∃ dp : Int, t.ρ 13 = .val (.int .i64 dp)) ∧ ∃ e : Nat, t.ρ 10 = .val (.int .i64 e) ∧ itr (tmE s d) n (a + 1 + k) = some e) ?_ ?_ ?_
    · exact ⟨rfl, by simp [upd, ini], by simp [upd, ini], by simp [upd, ini], by simp [upd], by simp [upd], ⟨0, by simp [upd]⟩, a + 1 + k, by simp [upd], rfl⟩
    · rintro i t hi ⟨hH, h0, h1, h2, h8, h14, ⟨dp, h13⟩, e, h10, hit⟩
      have he := itr_le (s := s) (f := tmE s d) (fun a e h => tmE_le h) (by omega) hit
      simp only [go_sem, ↓reduceIte, Nat.reduceEqDiff, reduceCtorEq, Nat.reduceAdd, Nat.reduceLeDiff, Nat.reduceMul, h0, h1, h2, h8, h10, h13, h14]
      refine brT.intro (fun q2 => ?_) (fun q2 => ?_) <;> simp only [go_sem, ↓reduceIte, Nat.reduceEqDiff, reduceCtorEq, Nat.reduceAdd, Nat.reduceLeDiff, Nat.reduceMul, h0, h1, h2, h8, h10, h13, h14, wd]
      · have hin : i < n := by have := of_decide_eq_true q2; omega
        refine callT_to (fun m' h => ih (H := H) (a := e) (by omega) m' h) hH hw fun r1 H1 ⟨⟨dd1, e1⟩, e2⟩ => ?_
        subst e1 e2
        simp only [go_sem, ↓reduceIte, Nat.reduceEqDiff, reduceCtorEq, Nat.reduceAdd, Nat.reduceLeDiff, Nat.reduceMul, h0, h1, h2, h8, h10, h13, h14, List.getElem?_toArray, ofV]
        cases hf : tmE s d e with
        | none =>
          have z1 : decide (lenE e none = 0) = true := rfl
          have hno : itr (tmE s d) n (a + 1 + k) = none := itr_none (i := i + 1) hin (by rw [itr_succ, hit]; exact hf)
          simp only [go_sem, ↓reduceIte, Nat.reduceEqDiff, reduceCtorEq, Nat.reduceAdd, Nat.reduceLeDiff, Nat.reduceMul, z1, h0, h1, h2, h8, h10, h13, h14]
          rw [hno]
          exact ⟨rfl, 0, rfl⟩
        | some e' =>
          have he' := tmE_le hf
          have z1 : decide (lenE e (some e') = 0) = false := decide_eq_false (by simp only [lenE]; omega)
          have z2 : (e : Int) + lenE e (some e') = (e' : Int) := by simp only [lenE]; omega
          simp only [go_sem, ↓reduceIte, Nat.reduceEqDiff, reduceCtorEq, Nat.reduceAdd, Nat.reduceLeDiff, Nat.reduceMul, z1, h0, h1, h2, h8, h10, h13, h14, z2, wrap64 ((e' : Nat) : Int) (by omega) (by omega)]
          refine brT.intro (fun q3 => ?_) (fun q3 => ?_) <;> simp only [go_sem, ↓reduceIte, Nat.reduceEqDiff, reduceCtorEq, Nat.reduceAdd, Nat.reduceLeDiff, Nat.reduceMul, h0, h1, h2, h8, h10, h13, h14, wrap64 ((i : Int) + 1) (by omega) (by omega)]
          · exact ⟨hin, by simp, ⟨_, rfl⟩, e', rfl, by rw [itr_succ, hit]; exact hf⟩
          · exact ⟨hin, by simp, ⟨_, rfl⟩, e', rfl, by rw [itr_succ, hit]; exact hf⟩
      · have hin : i = n := by have := of_decide_eq_false q2; omega
        subst hin
        exact ⟨hH, ⟨_, rfl⟩, e, rfl, hit⟩
    · rintro t ⟨hH, h1, ⟨dp, h13⟩, e, h10, hit⟩
      have he := itr_le (s := s) (f := tmE s d) (fun a e h => tmE_le h) (by omega) hit
      simp only [go_sem, ↓reduceIte, Nat.reduceEqDiff, reduceCtorEq, Nat.reduceAdd, Nat.reduceLeDiff, Nat.reduceMul, h1, h13, h10, hH, wrap64 ((e : Int) - (a : Int)) (by omega) (by omega)]
      rw [hit]
      exact ⟨rfl, _, rfl⟩
end Go.Proofs.Ytpdkgbamakileaa.Ev

/- What is a term; atoms, lists, seals; the law SealHead. -/
namespace Go.Proofs.Ytpdkgbamakileaa.Ev
set_option linter.all false
open Go
set_option maxRecDepth 4000

theorem tmE_8 {s : ByteArray} {e : Nat} (h : tmE s 8 0 = some e) : e ≤ s.size := (tmE_le h).2

theorem f88 {H : Hp} {s : ByteArray} (hs : s.size ≤ 4611686018427387904) : Scal EE 88 [.string s] H (.bool (tOk s)) := by
  refine scal_ok rfl rfl k88 (by simp [c88]) rfl fun m hw => ?_
  simp only [go_sem, ↓reduceIte, Nat.reduceEqDiff, reduceCtorEq, Nat.reduceAdd, Nat.reduceLeDiff, Nat.reduceMul, c88]
  refine callT_to (fun m' h => f126 hs 8 (Nat.le_refl _) (H := H) (a := 0) (by omega) m' h) rfl hw fun r1 H1 ⟨⟨dd1, e1⟩, e2⟩ => ?_
  subst e1
  have e2 : H1 = H := e2
  subst e2
  have key : tOk s = (decide (lenE 0 (tmE s 8 0) > 0) && decide (lenE 0 (tmE s 8 0) = (s.size : Int)) && decide (lenE 0 (tmE s 8 0) ≤ 900)) := by
    rw [Bool.eq_iff_iff, tOk_t]
    simp only [Bool.and_eq_true, decide_eq_true_eq]
    unfold TOk
    cases h : tmE s 8 0 with
    | none => simp [lenE]
    | some e =>
      have := tmE_8 h
      simp only [lenE, Option.some.injEq]
      omega
  rw [key]
  simp only [go_sem, ↓reduceIte, Nat.reduceEqDiff, reduceCtorEq, Nat.reduceAdd, Nat.reduceLeDiff, Nat.reduceMul, List.getElem?_toArray, ofV, lenTK]
  refine brT.intro (fun q1 => ?_) (fun q1 => ?_) <;> simp only [go_sem, ↓reduceIte, Nat.reduceEqDiff, reduceCtorEq, Nat.reduceAdd, Nat.reduceLeDiff, Nat.reduceMul, q1, lenTK]
  refine brT.intro (fun q2 => ?_) (fun q2 => ?_) <;> simp only [go_sem, ↓reduceIte, Nat.reduceEqDiff, reduceCtorEq, Nat.reduceAdd, Nat.reduceLeDiff, Nat.reduceMul, q1, q2, lenTK]

theorem f96 {H : Hp} {s : ByteArray} (hs : s.size ≤ 4611686018427387904) : Scal EE 96 [.string s] H (.bool (tOk s)) := by
  refine scal_ok rfl rfl k96 (by simp [c96]) rfl fun m hw => ?_
  have a120 := fun {m draw t d' ts Q} => callT_at (m := m) (draw := draw) (s := t) (d := d') (ts := ts) (Q := Q) (f120 hs 8 (Nat.le_refl _) (H := H) (a := 0) (by omega))
  have a120 : ∀ {m : Md} {draw : Bool} {t : St} {d' : Option Nat} {ts : List Tk} {Q : Ex → St → Prop}, t.H = H → Wr m H → callT EE m draw 120 (some [.string s, .int .i64 0, .int .i64 8]) t d' ts Q = go EE m ts { t with ρ := upd t.ρ d' (.val (.int .i64 (encT (tmE s 8 0)))) } Q := fun {m draw t d' ts Q} h1 h2 => a120 h1 h2
  have key : tOk s = ((decide ((s.size : Int) ≥ 1) && decide ((s.size : Int) ≤ 900)) && decide (encT (tmE s 8 0) = (s.size : Int))) := by
    rw [Bool.eq_iff_iff, tOk_t]
    simp only [Bool.and_eq_true, decide_eq_true_eq]
    unfold TOk
    cases h : tmE s 8 0 with
    | none => simp [encT]
    | some e => simp only [encT, Option.some.injEq]; omega
  rw [key]
  simp only [go_sem, ↓reduceIte, Nat.reduceEqDiff, reduceCtorEq, Nat.reduceAdd, Nat.reduceLeDiff, Nat.reduceMul, c96, lenTK, c112', hw]
  refine brT.intro (fun q1 => ?_) (fun q1 => ?_) <;> simp only [go_sem, ↓reduceIte, Nat.reduceEqDiff, reduceCtorEq, Nat.reduceAdd, Nat.reduceLeDiff, Nat.reduceMul, q1, a120, hw, lenTK]

theorem f98 {H : Hp} {s : ByteArray} (hs : s.size ≤ 4611686018427387904) : Scal EE 98 [.string s] H (.string (okB s)) := by
  refine scal_ok rfl rfl k98 (by simp [c98]) rfl fun m hw => ?_
  have a96 := fun {m draw t d ts Q} => callT_at (m := m) (draw := draw) (s := t) (d := d) (ts := ts) (Q := Q) (f96 (H := H) hs)
  simp only [go_sem, ↓reduceIte, Nat.reduceEqDiff, reduceCtorEq, Nat.reduceAdd, Nat.reduceLeDiff, Nat.reduceMul, c98, a96, hw]
  unfold okB
  refine brT.intro (fun q1 => ?_) (fun q1 => ?_) <;> simp only [go_sem, ↓reduceIte, Nat.reduceEqDiff, reduceCtorEq, Nat.reduceAdd, Nat.reduceLeDiff, Nat.reduceMul, q1]
  rfl

theorem app_size (a b : ByteArray) : (a ++ b).size = a.size + b.size := ByteArray.size_append
theorem sz1 (c : UInt8) : (⟨#[c]⟩ : ByteArray).size = 1 := rfl

end Go.Proofs.Ytpdkgbamakileaa.Ev

/- Lists of terms; the law SealHead. -/
namespace Go.Proofs.Ytpdkgbamakileaa.Ev
set_option linter.all false
open Go
set_option maxRecDepth 4000

def eS (b : ByteArray) : List Value := [.string b]
abbrev SlS (H : Hp) (v : Value) (l : List ByteArray) : Prop := Sl (En eS) 1 H v l
theorem Sl.str {H : Hp} {v : Value} {l : List ByteArray} (h : SlS H v l) {i : Nat} {a : ByteArray} (hi : l[i]? = some a) : ∃ id p o, H[id]? = some o ∧ o[p]? = some (.string a) ∧
    ∀ (s : St) (x y : X), exv s.ρ x = some v → exv s.ρ y = some (.int .i64 i) → iadrK s 1 x y = some (.val (.pointer (some ⟨id, p, some o.length⟩)), s) := by
  obtain ⟨id, p, o, ho, hr, hp, hia⟩ := h.elem hi
  unfold En at hr
  exact ⟨id, p, o, ho, by simpa [eS] using getElem?_of_take hr (j := 0) (by omega), hia⟩

def headB : ByteArray := ⟨#[104, 101, 97, 100]⟩
noncomputable def sealHead (k n : Int) : ByteArray := sealB k (listB [atomB headB, numB n])
end Go.Proofs.Ytpdkgbamakileaa.Ev

/- Lines, sealed; the law SealLine. -/
namespace Go.Proofs.Ytpdkgbamakileaa.Ev
set_option linter.all false
open Go
set_option maxRecDepth 4000

theorem rest_one (c : UInt8) (y : ByteArray) : rest ((⟨#[c]⟩ : ByteArray) ++ y) 1 = y := by
  unfold rest
  refine ByteArray.ext ?_
  rw [ByteArray.data_extract, ByteArray.data_append, ByteArray.size_append]
  have : (⟨#[c]⟩ : ByteArray).data = #[c] := rfl
  rw [this, Array.extract_append]
  have h1 : (⟨#[c]⟩ : ByteArray).size = 1 := rfl
  have h2 : y.size = y.data.size := rfl
  rw [h1, h2]
  simp

abbrev Ln := Int × Int × ByteArray
def eLn (z : Ln) : List Value := [.int .i64 z.1, .int .i64 z.2.1, .string z.2.2]
noncomputable def lineP (q : Int) (z : Ln) : List ByteArray := [numB q, numB z.1, numB z.2.1, atomB z.2.2]
noncomputable def sealLine (k q : Int) (z : Ln) : ByteArray := sealB k (listB (lineP q z))
end Go.Proofs.Ytpdkgbamakileaa.Ev

/- The types of the laws' parameters: lines. -/
namespace Go.Proofs.Ytpdkgbamakileaa.Ev
set_option linter.all false
open Go
set_option maxRecDepth 100000
theorem bI : Bld Try.prog 3 1 (fun _ (n : Int) vs => vs = [.int .i64 n]) (fun n => (Lit.int .i64 n).wf = true) := Bld.int Try.underlying3 (by kernel_rfl)
theorem bS : Bld Try.prog 9 1 (fun _ (b : ByteArray) vs => vs = [.string b]) (fun b => b.size ≤ maxLen) := Bld.string Try.underlying9 (by kernel_rfl)
end Go.Proofs.Ytpdkgbamakileaa.Ev

/- Lists of lines and of texts: sizes, copies, comparisons, marks. -/
namespace Go.Proofs.Ytpdkgbamakileaa.Ev
set_option linter.all false
open Go
set_option maxRecDepth 4000

theorem callT_now {E : Env} {m : Md} {f : Nat} {vs : List Value} {P : Value → Hp → Prop} {s : St} {d : Option Nat} {ts : List Tk} {Q : Ex → St → Prop} (h : Fun E m f vs s.H P)
    (hq : ∀ r H', P r H' → go E m ts { s with H := H', ρ := upd s.ρ d (.val r) } Q) : callT E m false f (some vs) s d ts Q := by
  unfold callT opt
  exact h.mono hq

def dgL (n : Nat) : List Nat := if n = 0 then [] else dgL (n / 10) ++ [48 + n % 10]
termination_by n
theorem dgL_pos {n : Nat} (h : ¬ n = 0) : dgL n = dgL (n / 10) ++ [48 + n % 10] := by rw [dgL, if_neg h]
theorem dgL_zero : dgL 0 = [] := by rw [dgL, if_pos rfl]
theorem dgL_len : ∀ n : Nat, (dgL n).length ≤ n := fun n => by
  induction n using Nat.strongRecOn with
  | _ n ih =>
    by_cases h : n = 0
    · subst h; rw [dgL_zero]; simp
    · rw [dgL_pos h, List.length_append]
      have := ih (n / 10) (by omega)
      simp
      omega
def markT (k : Int) : ByteArray := if k ≤ 0 then ⟨#[109, 48]⟩ else (⟨#[109]⟩ : ByteArray) ++ strOf (dgL k.toNat)
theorem strOf_cons (a : Nat) (l : List Nat) : strOf [a] ++ strOf l = strOf (a :: l) := by
  refine ByteArray.ext ?_
  rw [ByteArray.data_append]
  simp [strOf]
theorem sl_oneN {H : Hp} {a : Nat} : SlN (H ++ [[.int .u8 (a : Int)]]) (.slice (some ⟨H.length, 0, some 1⟩) 1 (1 * 1)) [a] := .inr ⟨H.length, 0, 1, [.int .u8 (a : Int)], rfl, by simp, by simp, by simp, by simp, fun i x hi => by
  match i, hi with
  | 0, hi => cases hi; rfl
  | i + 1, hi => simp at hi⟩

theorem f62 {H : Hp} {k : Int} (hk : k ≤ 4611686018427387904) : Scal EE 62 [.int .i64 k] H (.string (markT k)) := by
  refine scal_ok rfl rfl k62 (by simp [c62]) rfl fun m hw => ?_
  simp only [go_sem, ↓reduceIte, Nat.reduceEqDiff, reduceCtorEq, Nat.reduceAdd, Nat.reduceLeDiff, Nat.reduceMul, c62]
  unfold markT
  refine brT.intro (fun h => ?_) (fun h => ?_) <;> simp only [go_sem, ↓reduceIte, Nat.reduceEqDiff, reduceCtorEq, Nat.reduceAdd, Nat.reduceLeDiff, Nat.reduceMul]
  · rw [if_pos (of_decide_eq_true h)]
  have h0 : ¬ k ≤ 0 := of_decide_eq_false h
  rw [if_neg h0]
  obtain ⟨n, rfl⟩ : ∃ n : Nat, k = n := ⟨k.toNat, by omega⟩
  have hdl := dgL_len n
  refine go_loop (fun j s => H <+: s.H ∧ s.ρ 0 = .val (.int .i64 j) ∧ j ≤ n ∧ ∃ l, s.ρ 3 = .val (.string (strOf l)) ∧ dgL j ++ l = dgL n)
    (fun s => H <+: s.H ∧ s.ρ 3 = .val (.string (strOf (dgL n)))) n ?_ ?_ ?_
  · exact ⟨List.prefix_refl _, by simp [upd, ini], Nat.le_refl _, [], by simp [upd]; rfl, by simp⟩
  · rintro j s ⟨hH, h0', hj, l, h3, hl⟩
    simp only [go_sem, ↓reduceIte, Nat.reduceEqDiff, reduceCtorEq, Nat.reduceAdd, Nat.reduceLeDiff, Nat.reduceMul, h0', h3]
    refine brT.intro (fun q1 => ?_) (fun q1 => ?_) <;> simp only [go_sem, ↓reduceIte, Nat.reduceEqDiff, reduceCtorEq, Nat.reduceAdd, Nat.reduceLeDiff, Nat.reduceMul, h0', h3]
    · have q2 : ¬ j = 0 := by have := of_decide_eq_true q1; omega
      have hll := congrArg List.length hl
      rw [List.length_append] at hll
      have ne10 : ¬ ((10 : Int) = 0) := by decide
      have t1 : Int.tmod (j : Int) 10 = ((j % 10 : Nat) : Int) := rfl
      have t2 : Int.tdiv (j : Int) 10 = ((j / 10 : Nat) : Int) := rfl
      have t3 : IntKind.i64.wrap (48 + ((j % 10 : Nat) : Int)) = ((48 + j % 10 : Nat) : Int) := by rw [wrap64 _ (by omega) (by omega)]; omega
      have t4 : IntKind.u8.wrap (((48 + j % 10 : Nat) : Int)) = ((48 + j % 10 : Nat) : Int) := wrap8 _ (by omega) (by omega)
      have sb := (sl_oneN (H := s.H) (a := 48 + j % 10)).b2s (fun x hx => by simp at hx; omega)
      have hB : (strOf [48 + j % 10]).size + (strOf l).size ≤ 9223372036854775807 := by rw [strOf_size, strOf_size]; simp; omega
      simp only [go_sem, ↓reduceIte, Nat.reduceEqDiff, reduceCtorEq, Nat.reduceAdd, Nat.reduceLeDiff, Nat.reduceMul, h0', h3, ne10, t1, t3, t4, exps, fillL]
      rw [sb]
      rotate_left
      · rfl
      · rfl
      simp only [go_sem, ↓reduceIte, Nat.reduceEqDiff, reduceCtorEq, Nat.reduceAdd, Nat.reduceLeDiff, Nat.reduceMul, h0', h3, hB, strOf_cons, ne10, t2, wrap64 (((j / 10 : Nat) : Int)) (by omega) (by omega)]
      refine ⟨j / 10, by omega, hH.trans (List.prefix_append _ _), rfl, by omega, _, rfl, ?_⟩
      rw [← hl, dgL_pos q2, List.append_assoc]
      rfl
    · have q2 : j = 0 := by have := of_decide_eq_false q1; omega
      subst q2
      rw [dgL_zero, List.nil_append] at hl
      rw [hl]
      exact ⟨hH, rfl⟩
  · rintro s ⟨hH, h3⟩
    have hC : (⟨#[109]⟩ : ByteArray).size + (strOf (dgL n)).size ≤ 9223372036854775807 := by rw [sz1, strOf_size]; omega
    simp only [go_sem, ↓reduceIte, Nat.reduceEqDiff, reduceCtorEq, Nat.reduceAdd, Nat.reduceLeDiff, Nat.reduceMul, h3, hC]
    exact ⟨by simp, pre_take hH⟩

def FreshS {α : Type} (enc : α → List Value) (esz : Nat) (H : Hp) (v : Value) (H' : Hp) (l : List α) : Prop := H <+: H' ∧ Sl (En enc) esz H' v l ∧ OwnS H.length v

end Go.Proofs.Ytpdkgbamakileaa.Ev

/- The types of the laws' parameters: lists of lines. -/
namespace Go.Proofs.Ytpdkgbamakileaa.Ev
set_option linter.all false
open Go
set_option maxRecDepth 100000
end Go.Proofs.Ytpdkgbamakileaa.Ev

/- The types of the laws' parameters: texts and lists of texts. -/
namespace Go.Proofs.Ytpdkgbamakileaa.Ev
set_option linter.all false
open Go
set_option maxRecDepth 100000
theorem bStr : Bld Try.prog 9 1 (fun _ (b : ByteArray) vs => En eS b vs) (fun b => b.size ≤ maxLen) := bS
end Go.Proofs.Ytpdkgbamakileaa.Ev

/- Code of the program's functions, as the small machine has it: written by mkcode.py. -/
namespace Go.Proofs.Ytpdkgbamakileaa.Ev
set_option linter.all false
open Go
def c6 : CF := ⟨109, (.seq (.reg false [⟨(some 6), .none, (.mov (.c (.bool false))), 0, []⟩]) (.seq (.seq (.reg false [⟨(some 18), .none, (.mov (.t 2)), 0, []⟩, ⟨(some 19), .none, (.lenT (.t 18)), 1, []⟩, ⟨(some 20), .none, (.bin .gtr (.t 19) (.c (.int .i64 1048576))), 2, []⟩]) (.cond (.t 20) (.seq (.reg false [⟨(some 6), .none, (.mov (.c (.bool true))), 0, []⟩]) .ret) .skip)) (.seq (.reg false [⟨(some 7), .none, (.mov (.c (.int .i64 1048576))), 0, []⟩]) (.seq (.reg false [⟨(some 21), .none, (.mov (.t 1)), 0, []⟩, ⟨(some 22), .none, (.mov (.t 7)), 1, []⟩, ⟨(some 23), .none, (.call 26 [(.t 21), (.t 22)]), 2, []⟩, ⟨(some 7), .none, (.mov (.t 23)), 3, []⟩]) (.seq (.seq (.reg false [⟨(some 24), .none, (.mov (.t 7)), 0, []⟩, ⟨(some 25), .none, (.bin .lss (.t 24) (.c (.int .i64 0))), 1, []⟩]) (.cond (.t 25) (.seq (.reg false [⟨(some 6), .none, (.mov (.c (.bool true))), 0, []⟩]) .ret) .skip)) (.seq (.reg false [⟨(some 27), .none, (.mov (.t 0)), 0, []⟩, ⟨(some 28), .none, (.mov (.t 1)), 1, []⟩, ⟨(some 29), .none, (.call 28 [(.t 28)]), 2, []⟩, ⟨(some 30), .none, (.mov (.t 2)), 3, []⟩, ⟨(some 31), .none, (.call 27 [(.t 27), (.t 29), (.t 30)]), 4, []⟩, ⟨(some 26), .none, (.mov (.t 31)), 5, []⟩, ⟨(some 32), .none, (.ext (.t 26) 0), 6, []⟩, ⟨(some 33), .none, (.ext (.t 26) 1), 7, []⟩, ⟨(some 8), .none, (.mov (.t 32)), 8, []⟩, ⟨(some 9), .none, (.mov (.t 33)), 9, []⟩]) (.seq (.reg false [⟨(some 34), .none, (.mov (.t 1)), 0, []⟩, ⟨(some 35), .none, (.call 28 [(.t 34)]), 1, []⟩, ⟨(some 10), .none, (.mov (.t 35)), 2, []⟩]) (.seq (.reg false [⟨(some 37), .none, (.mov (.t 0)), 0, []⟩, ⟨(some 38), .none, (.mov (.t 10)), 1, []⟩, ⟨(some 39), .none, (.mov (.t 2)), 2, []⟩, ⟨(some 40), .none, (.call 29 [(.t 37), (.t 38), (.t 39)]), 3, []⟩, ⟨(some 36), .none, (.mov (.t 40)), 4, []⟩, ⟨(some 41), .none, (.ext (.t 36) 0), 5, []⟩, ⟨(some 42), .none, (.ext (.t 36) 1), 6, []⟩, ⟨(some 11), .none, (.mov (.t 41)), 7, []⟩, ⟨(some 12), .none, (.mov (.t 42)), 8, []⟩]) (.seq (.seq (.reg false [⟨(some 43), .none, (.mov (.t 11)), 0, []⟩, ⟨(some 44), .none, (.mov (.t 8)), 1, []⟩, ⟨(some 45), .none, (.call 22 [(.t 43), (.t 44)]), 2, []⟩, ⟨(some 46), .none, (.un .not (.t 45)), 3, []⟩, ⟨(some 47), .none, (.mov (.t 46)), 4, []⟩, ⟨(some 48), (.some (47, false)), (.mov (.t 12)), 5, []⟩, ⟨(some 49), (.some (47, false)), (.mov (.t 9)), 6, []⟩, ⟨(some 50), (.some (47, false)), (.bin .neq (.t 48) (.t 49)), 7, []⟩, ⟨(some 51), .none, (.pick (.t 47) (.c (.bool true)) (.t 50)), 8, []⟩]) (.cond (.t 51) (.seq (.reg false [⟨(some 6), .none, (.mov (.c (.bool false))), 0, []⟩]) .ret) .skip)) (.seq (.seq (.reg false [⟨(some 52), .none, (.mov (.t 10)), 0, []⟩, ⟨(some 53), .none, (.mov (.t 1)), 1, []⟩, ⟨(some 54), .none, (.call 28 [(.t 53)]), 2, []⟩, ⟨(some 55), .none, (.call 21 [(.t 52), (.t 54)]), 3, []⟩, ⟨(some 56), .none, (.un .not (.t 55)), 4, []⟩]) (.cond (.t 56) (.seq (.reg false [⟨(some 6), .none, (.mov (.c (.bool false))), 0, []⟩]) .ret) .skip)) (.seq (.reg false [⟨(some 13), .none, (.mov (.c (.int .i64 1))), 0, []⟩]) (.seq (.reg false [⟨(some 57), .none, (.mov (.t 10)), 0, []⟩, ⟨(some 58), .none, (.mov (.t 13)), 1, []⟩, ⟨(some 59), .none, (.call 24 [(.t 57), (.t 58)]), 2, []⟩, ⟨(some 13), .none, (.mov (.t 59)), 3, []⟩]) (.seq (.seq (.reg false [⟨(some 60), .none, (.mov (.t 13)), 0, []⟩, ⟨(some 61), .none, (.bin .lss (.t 60) (.c (.int .i64 0))), 1, []⟩, ⟨(some 62), .none, (.mov (.t 61)), 2, []⟩, ⟨(some 63), (.some (62, false)), (.mov (.t 11)), 3, []⟩, ⟨(some 64), (.some (62, false)), (.mov (.t 8)), 4, []⟩, ⟨(some 65), (.some (62, false)), (.call 22 [(.t 63), (.t 64)]), 5, []⟩, ⟨(some 66), (.some (62, false)), (.un .not (.t 65)), 6, []⟩, ⟨(some 67), .none, (.pick (.t 62) (.c (.bool true)) (.t 66)), 7, []⟩, ⟨(some 68), .none, (.mov (.t 67)), 8, []⟩, ⟨(some 69), (.some (68, false)), (.mov (.t 12)), 9, []⟩, ⟨(some 70), (.some (68, false)), (.mov (.t 9)), 10, []⟩, ⟨(some 71), (.some (68, false)), (.bin .neq (.t 69) (.t 70)), 11, []⟩, ⟨(some 72), .none, (.pick (.t 68) (.c (.bool true)) (.t 71)), 12, []⟩]) (.cond (.t 72) (.seq (.reg false [⟨(some 6), .none, (.mov (.c (.bool false))), 0, []⟩]) .ret) .skip)) (.seq (.reg false [⟨(some 14), .none, (.mov (.c (.int .i64 1))), 0, []⟩]) (.seq (.reg false [⟨(some 73), .none, (.mov (.t 11)), 0, []⟩, ⟨(some 74), .none, (.mov (.t 14)), 1, []⟩, ⟨(some 75), .none, (.call 23 [(.t 73), (.t 74)]), 2, []⟩, ⟨(some 14), .none, (.mov (.t 75)), 3, []⟩]) (.seq (.reg false [⟨(some 15), .none, (.mov (.c (.int .i64 1))), 0, []⟩]) (.seq (.reg false [⟨(some 76), .none, (.mov (.t 11)), 0, []⟩, ⟨(some 77), .none, (.mov (.t 15)), 1, []⟩, ⟨(some 78), .none, (.call 30 [(.t 76), (.t 77)]), 2, []⟩, ⟨(some 15), .none, (.mov (.t 78)), 3, []⟩]) (.seq (.seq (.reg false [⟨(some 79), .none, (.mov (.t 15)), 0, []⟩, ⟨(some 80), .none, (.bin .lss (.t 79) (.c (.int .i64 0))), 1, []⟩]) (.cond (.t 80) (.seq (.reg false [⟨(some 6), .none, (.mov (.c (.bool false))), 0, []⟩]) .ret) .skip)) (.seq (.seq (.reg false [⟨(some 81), .none, (.mov (.t 15)), 0, []⟩, ⟨(some 82), .none, (.mov (.t 14)), 1, []⟩, ⟨(some 83), .none, (.bin .neq (.t 81) (.t 82)), 2, []⟩]) (.cond (.t 83) (.seq (.reg false [⟨(some 6), .none, (.mov (.c (.bool false))), 0, []⟩]) .ret) .skip)) (.seq (.reg false [⟨(some 85), .none, (.mov (.t 0)), 0, []⟩, ⟨(some 86), .none, (.mov (.t 1)), 1, []⟩, ⟨(some 87), .none, (.call 28 [(.t 86)]), 2, []⟩, ⟨(some 88), .none, (.mov (.t 2)), 3, []⟩, ⟨(some 89), .none, (.call 29 [(.t 85), (.t 87), (.t 88)]), 4, []⟩, ⟨(some 84), .none, (.mov (.t 89)), 5, []⟩, ⟨(some 90), .none, (.ext (.t 84) 0), 6, []⟩, ⟨(some 91), .none, (.ext (.t 84) 1), 7, []⟩, ⟨(some 16), .none, (.mov (.t 90)), 8, []⟩, ⟨(some 17), .none, (.mov (.t 91)), 9, []⟩]) (.seq (.seq (.reg false [⟨(some 92), .none, (.mov (.t 16)), 0, []⟩, ⟨(some 93), .none, (.mov (.t 8)), 1, []⟩, ⟨(some 94), .none, (.call 22 [(.t 92), (.t 93)]), 2, []⟩, ⟨(some 95), .none, (.un .not (.t 94)), 3, []⟩, ⟨(some 96), .none, (.mov (.t 95)), 4, []⟩, ⟨(some 97), (.some (96, false)), (.mov (.t 17)), 5, []⟩, ⟨(some 98), (.some (96, false)), (.mov (.t 9)), 6, []⟩, ⟨(some 99), (.some (96, false)), (.bin .neq (.t 97) (.t 98)), 7, []⟩, ⟨(some 100), .none, (.pick (.t 96) (.c (.bool true)) (.t 99)), 8, []⟩]) (.cond (.t 100) (.seq (.reg false [⟨(some 6), .none, (.mov (.c (.bool false))), 0, []⟩]) .ret) .skip)) (.seq (.reg false [⟨(some 15), .none, (.mov (.c (.int .i64 1))), 0, []⟩]) (.seq (.reg false [⟨(some 101), .none, (.mov (.t 11)), 0, []⟩, ⟨(some 102), .none, (.mov (.t 15)), 1, []⟩, ⟨(some 103), .none, (.call 30 [(.t 101), (.t 102)]), 2, []⟩, ⟨(some 15), .none, (.mov (.t 103)), 3, []⟩]) (.seq (.seq (.reg false [⟨(some 104), .none, (.mov (.t 15)), 0, []⟩, ⟨(some 105), .none, (.bin .lss (.t 104) (.c (.int .i64 0))), 1, []⟩]) (.cond (.t 105) (.seq (.reg false [⟨(some 6), .none, (.mov (.c (.bool false))), 0, []⟩]) .ret) .skip)) (.seq (.seq (.reg false [⟨(some 106), .none, (.mov (.t 15)), 0, []⟩, ⟨(some 107), .none, (.mov (.t 14)), 1, []⟩, ⟨(some 108), .none, (.bin .neq (.t 106) (.t 107)), 2, []⟩]) (.cond (.t 108) (.seq (.reg false [⟨(some 6), .none, (.mov (.c (.bool false))), 0, []⟩]) .ret) .skip)) (.seq (.reg false [⟨(some 6), .none, (.mov (.c (.bool true))), 0, []⟩]) .ret)))))))))))))))))))))))))), [(.t 6)]⟩
theorem k6 : EE.fns 6 = some c6 := by kernel_rfl
def c26 : CF := ⟨28, (.seq (.reg false [⟨(some 4), .none, (.mov (.c (.int .i64 0))), 0, []⟩]) (.seq (.reg false [⟨(some 6), .none, (.mov (.t 1)), 0, []⟩, ⟨(some 7), .none, (.mov (.t 0)), 1, []⟩, ⟨(some 8), .none, (.lenS (.t 7)), 2, []⟩, ⟨(some 9), .none, (.bin .sub (.t 6) (.t 8)), 3, []⟩, ⟨(some 1), .none, (.mov (.t 9)), 4, []⟩]) (.seq (.seq (.reg false [⟨(some 10), .none, (.mov (.t 1)), 0, []⟩, ⟨(some 11), .none, (.bin .lss (.t 10) (.c (.int .i64 0))), 1, []⟩]) (.cond (.t 11) (.seq (.reg false [⟨(some 4), .none, (.mov (.c (.int .i64 (-1)))), 0, []⟩]) .ret) .skip)) (.seq (.seq (.reg false [⟨(some 5), .none, (.mov (.c (.int .i64 0))), 0, []⟩]) (.block 0 (.loop (.seq (.seq (.reg false [⟨(some 12), .none, (.mov (.t 5)), 0, []⟩, ⟨(some 13), .none, (.mov (.t 0)), 1, []⟩, ⟨(some 14), .none, (.lenS (.t 13)), 2, []⟩, ⟨(some 15), .none, (.bin .lss (.t 12) (.t 14)), 3, []⟩]) (.cond (.t 15) .skip (.exit 0))) (.seq (.block 1 (.seq (.reg false [⟨(some 18), .none, (.mov (.t 1)), 0, []⟩, ⟨(some 19), .none, (.mov (.t 0)), 1, []⟩, ⟨(some 20), .none, (.mov (.t 5)), 2, []⟩, ⟨(some 21), .none, (.iadr 1 (.t 19) (.t 20)), 3, []⟩, ⟨(some 22), .none, (.load 1 false (.t 21)), 4, []⟩, ⟨(some 23), .none, (.lenT (.t 22)), 5, []⟩, ⟨(some 24), .none, (.bin .sub (.t 18) (.t 23)), 6, []⟩, ⟨(some 1), .none, (.mov (.t 24)), 7, []⟩]) (.seq (.reg false [⟨(some 25), .none, (.mov (.t 1)), 0, []⟩, ⟨(some 26), .none, (.bin .lss (.t 25) (.c (.int .i64 0))), 1, []⟩]) (.cond (.t 26) (.seq (.reg false [⟨(some 4), .none, (.mov (.c (.int .i64 (-1)))), 0, []⟩]) .ret) .skip)))) (.reg false [⟨(some 16), .none, (.mov (.t 5)), 0, []⟩, ⟨(some 17), .none, (.bin .add (.t 16) (.c (.int .i64 1))), 1, []⟩, ⟨(some 5), .none, (.mov (.t 17)), 2, []⟩])))))) (.seq (.reg false [⟨(some 27), .none, (.mov (.t 1)), 0, []⟩, ⟨(some 4), .none, (.mov (.t 27)), 1, []⟩]) .ret))))), [(.t 4)]⟩
theorem k26 : EE.fns 26 = some c26 := by kernel_rfl
def c28 : CF := ⟨22, (.seq (.reg false [⟨(some 2), .none, (.mov (.c (.slice .none 0 0))), 0, []⟩]) (.seq (.reg false [⟨(some 5), .none, (.mov (.t 0)), 0, []⟩, ⟨(some 6), .none, (.lenS (.t 5)), 1, []⟩, ⟨(some 7), .none, (.makeS 1 16 [(.string ⟨#[]⟩)] (.t 6) (.t 6)), 2, []⟩, ⟨(some 3), .none, (.mov (.t 7)), 3, []⟩]) (.seq (.seq (.reg false [⟨(some 4), .none, (.mov (.c (.int .i64 0))), 0, []⟩]) (.block 0 (.loop (.seq (.seq (.reg false [⟨(some 8), .none, (.mov (.t 4)), 0, []⟩, ⟨(some 9), .none, (.mov (.t 0)), 1, []⟩, ⟨(some 10), .none, (.lenS (.t 9)), 2, []⟩, ⟨(some 11), .none, (.bin .lss (.t 8) (.t 10)), 3, []⟩]) (.cond (.t 11) .skip (.exit 0))) (.seq (.block 1 (.reg false [⟨(some 14), .none, (.mov (.t 3)), 0, []⟩, ⟨(some 15), .none, (.mov (.t 4)), 1, []⟩, ⟨(some 16), .none, (.mov (.t 0)), 2, []⟩, ⟨(some 17), .none, (.mov (.t 4)), 3, []⟩, ⟨(some 18), .none, (.iadr 1 (.t 16) (.t 17)), 4, []⟩, ⟨(some 19), .none, (.load 1 false (.t 18)), 5, []⟩, ⟨(some 20), .none, (.iadr 1 (.t 14) (.t 15)), 6, []⟩, ⟨.none, .none, (.store 1 (.t 20) (.t 19)), 7, []⟩])) (.reg false [⟨(some 12), .none, (.mov (.t 4)), 0, []⟩, ⟨(some 13), .none, (.bin .add (.t 12) (.c (.int .i64 1))), 1, []⟩, ⟨(some 4), .none, (.mov (.t 13)), 2, []⟩])))))) (.seq (.reg false [⟨(some 21), .none, (.mov (.t 3)), 0, []⟩, ⟨(some 2), .none, (.mov (.t 21)), 1, []⟩]) .ret)))), [(.t 2)]⟩
theorem k28 : EE.fns 28 = some c28 := by kernel_rfl
def c29 : CF := ⟨71, (.seq (.reg false [⟨(some 6), .none, (.mov (.c (.slice .none 0 0))), 0, []⟩, ⟨(some 7), .none, (.mov (.c (.int .i64 0))), 1, []⟩]) (.seq (.reg false [⟨(some 16), .none, (.mkO 0 3 [(.int .i64 0), (.int .i64 0), (.string ⟨#[]⟩)] []), 0, []⟩, ⟨(some 8), .none, (.mov (.t 16)), 1, []⟩]) (.seq (.seq (.reg false [⟨(some 17), .none, (.mov (.t 1)), 0, []⟩, ⟨(some 18), .none, (.lenS (.t 17)), 1, []⟩, ⟨(some 19), .none, (.mov (.c (.int .i64 0))), 2, []⟩]) (.block 0 (.loop (.seq (.reg false [⟨(some 20), .none, (.bin .lss (.t 19) (.t 18)), 0, []⟩]) (.seq (.cond (.t 20) .skip (.exit 0)) (.seq (.block 1 (.seq (.reg false [⟨(some 21), .none, (.mov (.t 19)), 0, []⟩, ⟨(some 22), .none, (.iadr 1 (.t 17) (.t 19)), 1, []⟩, ⟨(some 23), .none, (.load 1 false (.t 22)), 2, []⟩, ⟨(some 9), .none, (.mov (.t 21)), 3, []⟩, ⟨(some 10), .none, (.mov (.t 23)), 4, []⟩]) (.seq (.reg false [⟨(some 25), .none, (.mov (.t 0)), 0, []⟩, ⟨(some 26), .none, (.mov (.t 9)), 1, []⟩, ⟨(some 27), .none, (.bin .add (.t 26) (.c (.int .i64 1))), 2, []⟩, ⟨(some 28), .none, (.mov (.t 10)), 3, []⟩, ⟨(some 29), .none, (.call 64 [(.t 25), (.t 27), (.t 28)]), 4, []⟩, ⟨(some 24), .none, (.mov (.t 29)), 5, []⟩, ⟨(some 30), .none, (.ext (.t 24) 0), 6, []⟩, ⟨(some 31), .none, (.ext (.t 24) 1), 7, []⟩, ⟨(some 11), .none, (.newV [(.int .i64 0), (.int .i64 0), (.string ⟨#[]⟩)]), 8, []⟩, ⟨.none, .none, (.store 3 (.t 11) (.t 30)), 9, []⟩, ⟨(some 12), .none, (.mov (.t 31)), 10, []⟩]) (.seq (.seq (.reg true [⟨(some 32), .none, (.mov (.t 12)), 0, []⟩, ⟨(some 33), .none, (.un .not (.t 32)), 1, [0]⟩, ⟨(some 34), .none, (.mov (.t 33)), 2, [1, 0]⟩, ⟨(some 35), (.some (34, false)), (.mov (.t 9)), 3, [2, 1, 0]⟩, ⟨(some 36), (.some (34, false)), (.bin .gtr (.t 35) (.c (.int .i64 0))), 4, [3, 2, 1, 0]⟩, ⟨(some 37), (.some (34, false)), (.mov (.t 36)), 5, [4, 3, 2, 1, 0]⟩, ⟨(some 38), (.some (37, true)), (.mov (.t 8)), 6, [5, 4, 3, 2, 1, 0]⟩, ⟨(some 39), (.some (37, true)), (.mov (.t 9)), 7, [5, 4, 3, 2, 1, 0]⟩, ⟨(some 40), (.some (37, true)), (.bin .sub (.t 39) (.c (.int .i64 1))), 8, [7, 5, 4, 3, 2, 1, 0]⟩, ⟨(some 41), (.some (37, true)), (.iadr 3 (.t 38) (.t 40)), 9, [6, 5, 4, 3, 2, 1, 0, 8, 7]⟩, ⟨(some 42), (.some (37, true)), (.fadr 0 (.t 41)), 10, [9, 6, 5, 4, 3, 2, 1, 0, 8, 7]⟩, ⟨(some 43), (.some (37, true)), (.load 1 false (.t 42)), 11, [10, 9, 6, 5, 4, 3, 2, 1, 0, 8, 7]⟩, ⟨(some 44), (.some (37, true)), (.fadr 0 (.t 11)), 12, [5, 4, 3, 2, 1, 0]⟩, ⟨(some 45), (.some (37, true)), (.load 1 false (.t 44)), 13, [12, 5, 4, 3, 2, 1, 0]⟩, ⟨(some 46), (.some (37, true)), (.bin .gtr (.t 43) (.t 45)), 14, [11, 10, 9, 6, 5, 4, 3, 2, 1, 0, 8, 7, 13, 12]⟩, ⟨(some 47), (.some (34, false)), (.pick (.t 37) (.t 46) (.c (.bool false))), 15, [5, 4, 3, 2, 1, 0, 14, 11, 10, 9, 6, 8, 7, 13, 12]⟩, ⟨(some 48), .none, (.pick (.t 34) (.c (.bool true)) (.t 47)), 16, [2, 1, 0, 15, 5, 4, 3, 14, 11, 10, 9, 6, 8, 7, 13, 12]⟩]) (.cond (.t 48) (.seq (.reg false [⟨(some 49), .none, (.mov (.t 9)), 0, []⟩, ⟨(some 50), .none, (.bin .add (.t 49) (.c (.int .i64 1))), 1, []⟩, ⟨(some 6), .none, (.mov (.c (.slice .none 0 0))), 2, []⟩, ⟨(some 7), .none, (.mov (.t 50)), 3, []⟩]) .ret) .skip)) (.reg false [⟨(some 51), .none, (.mov (.t 8)), 0, []⟩, ⟨(some 52), .none, (.load 3 true (.t 11)), 1, []⟩, ⟨(some 53), .none, (.mkV 1 3 [(.int .i64 0), (.int .i64 0), (.string ⟨#[]⟩)] [(0, (.t 52))]), 2, []⟩, ⟨(some 54), .none, (.app 3 32 (.t 51) (.t 53)), 3, []⟩, ⟨(some 8), .none, (.mov (.t 54)), 4, []⟩]))))) (.reg false [⟨(some 55), .none, (.bin .add (.t 19) (.c (.int .i64 1))), 0, []⟩, ⟨(some 19), .none, (.mov (.t 55)), 1, []⟩]))))))) (.seq (.reg false [⟨(some 57), .none, (.mov (.t 0)), 0, []⟩, ⟨(some 58), .none, (.mov (.t 8)), 1, []⟩, ⟨(some 59), .none, (.call 20 [(.t 57), (.t 58)]), 2, []⟩, ⟨(some 56), .none, (.mov (.t 59)), 3, []⟩, ⟨(some 60), .none, (.ext (.t 56) 0), 4, []⟩, ⟨(some 61), .none, (.ext (.t 56) 1), 5, []⟩, ⟨(some 62), .none, (.ext (.t 56) 2), 6, []⟩, ⟨(some 13), .none, (.mov (.t 60)), 7, []⟩, ⟨(some 14), .none, (.mov (.t 61)), 8, []⟩, ⟨(some 15), .none, (.mov (.t 62)), 9, []⟩]) (.seq (.seq (.reg false [⟨(some 63), .none, (.mov (.t 15)), 0, []⟩, ⟨(some 64), .none, (.un .not (.t 63)), 1, []⟩, ⟨(some 65), .none, (.mov (.t 64)), 2, []⟩, ⟨(some 66), (.some (65, false)), (.mov (.t 14)), 3, []⟩, ⟨(some 67), (.some (65, false)), (.mov (.t 2)), 4, []⟩, ⟨(some 68), (.some (65, false)), (.bin .neq (.t 66) (.t 67)), 5, []⟩, ⟨(some 69), .none, (.pick (.t 65) (.c (.bool true)) (.t 68)), 6, []⟩]) (.cond (.t 69) (.seq (.reg false [⟨(some 6), .none, (.mov (.c (.slice .none 0 0))), 0, []⟩, ⟨(some 7), .none, (.mov (.c (.int .i64 (-1)))), 1, []⟩]) .ret) .skip)) (.seq (.reg false [⟨(some 70), .none, (.mov (.t 8)), 0, []⟩, ⟨(some 6), .none, (.mov (.t 70)), 1, []⟩, ⟨(some 7), .none, (.mov (.c (.int .i64 0))), 2, []⟩]) .ret)))))), [(.t 6), (.t 7)]⟩
theorem k29 : EE.fns 29 = some c29 := by kernel_rfl
def c30 : CF := ⟨41, (.seq (.reg false [⟨(some 4), .none, (.mov (.c (.int .i64 0))), 0, []⟩]) (.seq (.seq (.reg false [⟨(some 5), .none, (.mov (.c (.int .i64 0))), 0, []⟩]) (.block 0 (.loop (.seq (.seq (.reg false [⟨(some 6), .none, (.mov (.t 5)), 0, []⟩, ⟨(some 7), .none, (.mov (.t 0)), 1, []⟩, ⟨(some 8), .none, (.lenS (.t 7)), 2, []⟩, ⟨(some 9), .none, (.bin .lss (.t 6) (.t 8)), 3, []⟩]) (.cond (.t 9) .skip (.exit 0))) (.seq (.block 1 (.seq (.seq (.reg false [⟨(some 12), .none, (.mov (.t 0)), 0, []⟩, ⟨(some 13), .none, (.mov (.t 5)), 1, []⟩, ⟨(some 14), .none, (.iadr 3 (.t 12) (.t 13)), 2, []⟩, ⟨(some 15), .none, (.fadr 0 (.t 14)), 3, []⟩, ⟨(some 16), .none, (.load 1 false (.t 15)), 4, []⟩, ⟨(some 17), .none, (.mov (.t 1)), 5, []⟩, ⟨(some 18), .none, (.bin .neq (.t 16) (.t 17)), 6, []⟩]) (.cond (.t 18) (.seq (.reg false [⟨(some 4), .none, (.mov (.c (.int .i64 (-1)))), 0, []⟩]) .ret) .skip)) (.seq (.reg false [⟨(some 19), .none, (.mov (.t 1)), 0, []⟩, ⟨(some 20), .none, (.bin .add (.t 19) (.c (.int .i64 1))), 1, []⟩, ⟨(some 1), .none, (.mov (.t 20)), 2, []⟩]) (.seq (.seq (.reg false [⟨(some 21), .none, (.mov (.t 0)), 0, []⟩, ⟨(some 22), .none, (.mov (.t 5)), 1, []⟩, ⟨(some 23), .none, (.iadr 3 (.t 21) (.t 22)), 2, []⟩, ⟨(some 24), .none, (.fadr 1 (.t 23)), 3, []⟩, ⟨(some 25), .none, (.load 1 false (.t 24)), 4, []⟩, ⟨(some 26), .none, (.mov (.t 1)), 5, []⟩, ⟨(some 27), .none, (.bin .neq (.t 25) (.t 26)), 6, []⟩]) (.cond (.t 27) (.seq (.reg false [⟨(some 4), .none, (.mov (.c (.int .i64 (-1)))), 0, []⟩]) .ret) .skip)) (.seq (.reg false [⟨(some 28), .none, (.mov (.t 1)), 0, []⟩, ⟨(some 29), .none, (.bin .add (.t 28) (.c (.int .i64 1))), 1, []⟩, ⟨(some 1), .none, (.mov (.t 29)), 2, []⟩]) (.seq (.seq (.reg true [⟨(some 30), .none, (.mov (.t 0)), 0, []⟩, ⟨(some 31), .none, (.mov (.t 5)), 1, []⟩, ⟨(some 32), .none, (.iadr 3 (.t 30) (.t 31)), 2, [0, 1]⟩, ⟨(some 33), .none, (.fadr 2 (.t 32)), 3, [2, 0, 1]⟩, ⟨(some 34), .none, (.load 1 false (.t 33)), 4, [3, 2, 0, 1]⟩, ⟨(some 35), .none, (.mov (.t 1)), 5, []⟩, ⟨(some 36), .none, (.call 62 [(.t 35)]), 6, [5]⟩, ⟨(some 37), .none, (.bin .neq (.t 34) (.t 36)), 7, [4, 3, 2, 0, 1, 6, 5]⟩]) (.cond (.t 37) (.seq (.reg false [⟨(some 4), .none, (.mov (.c (.int .i64 (-1)))), 0, []⟩]) .ret) .skip)) (.reg false [⟨(some 38), .none, (.mov (.t 1)), 0, []⟩, ⟨(some 39), .none, (.bin .add (.t 38) (.c (.int .i64 1))), 1, []⟩, ⟨(some 1), .none, (.mov (.t 39)), 2, []⟩]))))))) (.reg false [⟨(some 10), .none, (.mov (.t 5)), 0, []⟩, ⟨(some 11), .none, (.bin .add (.t 10) (.c (.int .i64 1))), 1, []⟩, ⟨(some 5), .none, (.mov (.t 11)), 2, []⟩])))))) (.seq (.reg false [⟨(some 40), .none, (.mov (.t 1)), 0, []⟩, ⟨(some 4), .none, (.mov (.t 40)), 1, []⟩]) .ret))), [(.t 4)]⟩
theorem k30 : EE.fns 30 = some c30 := by kernel_rfl
def c81 : CF := ⟨33, (.seq (.reg false [⟨(some 2), .none, (.mov (.c (.slice .none 0 0))), 0, []⟩, ⟨(some 3), .none, (.mov (.c (.bool false))), 1, []⟩]) (.seq (.seq (.reg false [⟨(some 8), .none, (.mov (.t 0)), 0, []⟩, ⟨(some 9), .none, (.call 118 [(.t 8), (.c (.int .u8 108))]), 1, []⟩, ⟨(some 10), .none, (.un .not (.t 9)), 2, []⟩]) (.cond (.t 10) (.seq (.reg false [⟨(some 2), .none, (.mov (.c (.slice .none 0 0))), 0, []⟩, ⟨(some 3), .none, (.mov (.c (.bool false))), 1, []⟩]) .ret) .skip)) (.seq (.reg false [⟨(some 12), .none, (.mov (.t 0)), 0, []⟩, ⟨(some 13), .none, (.call 119 [(.t 12), (.c (.int .i64 1))]), 1, []⟩, ⟨(some 11), .none, (.mov (.t 13)), 2, []⟩, ⟨(some 14), .none, (.ext (.t 11) 0), 3, []⟩, ⟨(some 15), .none, (.ext (.t 11) 1), 4, []⟩, ⟨(some 4), .none, (.mov (.t 14)), 5, []⟩, ⟨(some 5), .none, (.mov (.t 15)), 6, []⟩]) (.seq (.reg false [⟨(some 16), .none, (.mkO 0 1 [(.string ⟨#[]⟩)] []), 0, []⟩, ⟨(some 6), .none, (.mov (.t 16)), 1, []⟩]) (.seq (.seq (.reg false [⟨(some 17), .none, (.mov (.t 4)), 0, []⟩, ⟨(some 18), .none, (.mov (.c (.int .i64 0))), 1, []⟩]) (.block 0 (.loop (.seq (.reg false [⟨(some 19), .none, (.bin .lss (.t 18) (.t 17)), 0, []⟩]) (.seq (.cond (.t 19) .skip (.exit 0)) (.seq (.block 1 (.seq (.reg false [⟨(some 20), .none, (.mov (.t 0)), 0, []⟩, ⟨(some 21), .none, (.mov (.t 5)), 1, []⟩, ⟨(some 22), .none, (.call 120 [(.t 20), (.t 21), (.c (.int .i64 8))]), 2, []⟩, ⟨(some 7), .none, (.mov (.t 22)), 3, []⟩]) (.seq (.reg false [⟨(some 23), .none, (.mov (.t 6)), 0, []⟩, ⟨(some 24), .none, (.mov (.t 0)), 1, []⟩, ⟨(some 25), .none, (.mov (.t 5)), 2, []⟩, ⟨(some 26), .none, (.mov (.t 7)), 3, []⟩, ⟨(some 27), .none, (.slcS (.t 24) (.some (.t 25)) (.some (.t 26))), 4, []⟩, ⟨(some 28), .none, (.mkV 1 1 [(.string ⟨#[]⟩)] [(0, (.t 27))]), 5, []⟩, ⟨(some 29), .none, (.app 1 16 (.t 23) (.t 28)), 6, []⟩, ⟨(some 6), .none, (.mov (.t 29)), 7, []⟩]) (.reg false [⟨(some 30), .none, (.mov (.t 7)), 0, []⟩, ⟨(some 5), .none, (.mov (.t 30)), 1, []⟩])))) (.reg false [⟨(some 31), .none, (.bin .add (.t 18) (.c (.int .i64 1))), 0, []⟩, ⟨(some 18), .none, (.mov (.t 31)), 1, []⟩]))))))) (.seq (.reg false [⟨(some 32), .none, (.mov (.t 6)), 0, []⟩, ⟨(some 2), .none, (.mov (.t 32)), 1, []⟩, ⟨(some 3), .none, (.mov (.c (.bool true))), 2, []⟩]) .ret)))))), [(.t 2), (.t 3)]⟩
theorem k81 : EE.fns 81 = some c81 := by kernel_rfl
def c83 : CF := ⟨19, (.seq (.reg false [⟨(some 2), .none, (.mov (.c (.int .i64 0))), 0, []⟩, ⟨(some 3), .none, (.mov (.c (.string ⟨#[]⟩))), 1, []⟩, ⟨(some 4), .none, (.mov (.c (.bool false))), 2, []⟩]) (.seq (.seq (.reg false [⟨(some 7), .none, (.mov (.t 0)), 0, []⟩, ⟨(some 8), .none, (.call 118 [(.t 7), (.c (.int .u8 115))]), 1, []⟩, ⟨(some 9), .none, (.un .not (.t 8)), 2, []⟩]) (.cond (.t 9) (.seq (.reg false [⟨(some 2), .none, (.mov (.c (.int .i64 0))), 0, []⟩, ⟨(some 3), .none, (.mov (.c (.string ⟨#[]⟩))), 1, []⟩, ⟨(some 4), .none, (.mov (.c (.bool false))), 2, []⟩]) .ret) .skip)) (.seq (.reg false [⟨(some 11), .none, (.mov (.t 0)), 0, []⟩, ⟨(some 12), .none, (.call 119 [(.t 11), (.c (.int .i64 1))]), 1, []⟩, ⟨(some 10), .none, (.mov (.t 12)), 2, []⟩, ⟨(some 13), .none, (.ext (.t 10) 0), 3, []⟩, ⟨(some 14), .none, (.ext (.t 10) 1), 4, []⟩, ⟨(some 5), .none, (.mov (.t 13)), 5, []⟩, ⟨(some 6), .none, (.mov (.t 14)), 6, []⟩]) (.seq (.reg true [⟨(some 15), .none, (.mov (.t 5)), 0, []⟩, ⟨(some 16), .none, (.mov (.t 0)), 1, []⟩, ⟨(some 17), .none, (.mov (.t 6)), 2, []⟩, ⟨(some 18), .none, (.slcS (.t 16) (.some (.t 17)) .none), 3, [1, 2]⟩, ⟨(some 2), .none, (.mov (.t 15)), 4, [0]⟩, ⟨(some 3), .none, (.mov (.t 18)), 5, [3, 1, 2, 4, 0]⟩, ⟨(some 4), .none, (.mov (.c (.bool true))), 6, [5, 3, 1, 2, 4, 0]⟩]) .ret)))), [(.t 2), (.t 3), (.t 4)]⟩
theorem k83 : EE.fns 83 = some c83 := by kernel_rfl
def c93 : CF := ⟨53, (.seq (.reg false [⟨(some 2), .none, (.mov (.c (.slice .none 0 0))), 0, []⟩, ⟨(some 3), .none, (.mov (.c (.bool false))), 1, []⟩]) (.seq (.reg false [⟨(some 11), .none, (.mkO 0 1 [(.string ⟨#[]⟩)] []), 0, []⟩, ⟨(some 4), .none, (.mov (.t 11)), 1, []⟩]) (.seq (.seq (.reg false [⟨(some 12), .none, (.mov (.t 0)), 0, []⟩, ⟨(some 13), .none, (.call 88 [(.t 12)]), 1, []⟩, ⟨(some 14), .none, (.un .not (.t 13)), 2, []⟩, ⟨(some 15), .none, (.mov (.t 14)), 3, []⟩, ⟨(some 16), (.some (15, false)), (.mov (.t 0)), 4, []⟩, ⟨(some 17), (.some (15, false)), (.idx (.t 16) (.c (.int .i64 0))), 5, []⟩, ⟨(some 18), (.some (15, false)), (.bin .neq (.t 17) (.c (.int .u8 108))), 6, []⟩, ⟨(some 19), .none, (.pick (.t 15) (.c (.bool true)) (.t 18)), 7, []⟩]) (.cond (.t 19) (.seq (.reg false [⟨(some 20), .none, (.mov (.t 4)), 0, []⟩, ⟨(some 2), .none, (.mov (.t 20)), 1, []⟩, ⟨(some 3), .none, (.mov (.c (.bool false))), 2, []⟩]) .ret) .skip)) (.seq (.reg false [⟨(some 22), .none, (.mov (.t 0)), 0, []⟩, ⟨(some 23), .none, (.slcS (.t 22) (.some (.c (.int .i64 1))) .none), 1, []⟩, ⟨(some 24), .none, (.call 127 [(.t 23)]), 2, []⟩, ⟨(some 21), .none, (.mov (.t 24)), 3, []⟩, ⟨(some 25), .none, (.ext (.t 21) 0), 4, []⟩, ⟨(some 26), .none, (.ext (.t 21) 1), 5, []⟩, ⟨(some 5), .none, (.mov (.t 25)), 6, []⟩, ⟨(some 6), .none, (.mov (.t 26)), 7, []⟩]) (.seq (.reg false [⟨(some 27), .none, (.mov (.t 6)), 0, []⟩, ⟨(some 28), .none, (.bin .add (.c (.int .i64 1)) (.t 27)), 1, []⟩, ⟨(some 7), .none, (.mov (.t 28)), 2, []⟩]) (.seq (.seq (.reg false [⟨(some 8), .none, (.mov (.c (.int .i64 0))), 0, []⟩]) (.block 0 (.loop (.seq (.seq (.reg false [⟨(some 29), .none, (.mov (.t 8)), 0, []⟩, ⟨(some 30), .none, (.mov (.t 5)), 1, []⟩, ⟨(some 31), .none, (.bin .lss (.t 29) (.t 30)), 2, []⟩]) (.cond (.t 31) .skip (.exit 0))) (.seq (.block 1 (.seq (.reg false [⟨(some 35), .none, (.mov (.t 0)), 0, []⟩, ⟨(some 36), .none, (.mov (.t 7)), 1, []⟩, ⟨(some 37), .none, (.call 126 [(.t 35), (.t 36), (.c (.int .i64 8))]), 2, []⟩, ⟨(some 34), .none, (.mov (.t 37)), 3, []⟩, ⟨(some 38), .none, (.ext (.t 34) 0), 4, []⟩, ⟨(some 39), .none, (.ext (.t 34) 1), 5, []⟩, ⟨(some 9), .none, (.mov (.t 38)), 6, []⟩, ⟨(some 10), .none, (.mov (.t 39)), 7, []⟩]) (.seq (.reg false [⟨(some 40), .none, (.mov (.t 4)), 0, []⟩, ⟨(some 41), .none, (.mov (.t 0)), 1, []⟩, ⟨(some 42), .none, (.mov (.t 7)), 2, []⟩, ⟨(some 43), .none, (.mov (.t 7)), 3, []⟩, ⟨(some 44), .none, (.mov (.t 9)), 4, []⟩, ⟨(some 45), .none, (.bin .add (.t 43) (.t 44)), 5, []⟩, ⟨(some 46), .none, (.slcS (.t 41) (.some (.t 42)) (.some (.t 45))), 6, []⟩, ⟨(some 47), .none, (.mkV 1 1 [(.string ⟨#[]⟩)] [(0, (.t 46))]), 7, []⟩, ⟨(some 48), .none, (.app 1 16 (.t 40) (.t 47)), 8, []⟩, ⟨(some 4), .none, (.mov (.t 48)), 9, []⟩]) (.reg false [⟨(some 49), .none, (.mov (.t 7)), 0, []⟩, ⟨(some 50), .none, (.mov (.t 9)), 1, []⟩, ⟨(some 51), .none, (.bin .add (.t 49) (.t 50)), 2, []⟩, ⟨(some 7), .none, (.mov (.t 51)), 3, []⟩])))) (.reg false [⟨(some 32), .none, (.mov (.t 8)), 0, []⟩, ⟨(some 33), .none, (.bin .add (.t 32) (.c (.int .i64 1))), 1, []⟩, ⟨(some 8), .none, (.mov (.t 33)), 2, []⟩])))))) (.seq (.reg false [⟨(some 52), .none, (.mov (.t 4)), 0, []⟩, ⟨(some 2), .none, (.mov (.t 52)), 1, []⟩, ⟨(some 3), .none, (.mov (.c (.bool true))), 2, []⟩]) .ret))))))), [(.t 2), (.t 3)]⟩
theorem k93 : EE.fns 93 = some c93 := by kernel_rfl
def c100 : CF := ⟨29, (.seq (.reg false [⟨(some 4), .none, (.mov (.c (.string ⟨#[]⟩))), 0, []⟩, ⟨(some 5), .none, (.mov (.c (.bool false))), 1, []⟩]) (.seq (.seq (.reg false [⟨(some 8), .none, (.mov (.t 0)), 0, []⟩, ⟨(some 9), .none, (.call 88 [(.t 8)]), 1, []⟩, ⟨(some 10), .none, (.un .not (.t 9)), 2, []⟩, ⟨(some 11), .none, (.mov (.t 10)), 3, []⟩, ⟨(some 12), (.some (11, false)), (.mov (.t 0)), 4, []⟩, ⟨(some 13), (.some (11, false)), (.idx (.t 12) (.c (.int .i64 0))), 5, []⟩, ⟨(some 14), (.some (11, false)), (.bin .neq (.t 13) (.c (.int .u8 115))), 6, []⟩, ⟨(some 15), .none, (.pick (.t 11) (.c (.bool true)) (.t 14)), 7, []⟩]) (.cond (.t 15) (.seq (.reg false [⟨(some 4), .none, (.mov (.c (.string ⟨#[]⟩))), 0, []⟩, ⟨(some 5), .none, (.mov (.c (.bool false))), 1, []⟩]) .ret) .skip)) (.seq (.reg false [⟨(some 17), .none, (.mov (.t 0)), 0, []⟩, ⟨(some 18), .none, (.slcS (.t 17) (.some (.c (.int .i64 1))) .none), 1, []⟩, ⟨(some 19), .none, (.call 127 [(.t 18)]), 2, []⟩, ⟨(some 16), .none, (.mov (.t 19)), 3, []⟩, ⟨(some 20), .none, (.ext (.t 16) 0), 4, []⟩, ⟨(some 21), .none, (.ext (.t 16) 1), 5, []⟩, ⟨(some 6), .none, (.mov (.t 20)), 6, []⟩, ⟨(some 7), .none, (.mov (.t 21)), 7, []⟩]) (.seq (.seq (.reg false [⟨(some 22), .none, (.mov (.t 6)), 0, []⟩, ⟨(some 23), .none, (.mov (.t 1)), 1, []⟩, ⟨(some 24), .none, (.bin .neq (.t 22) (.t 23)), 2, []⟩]) (.cond (.t 24) (.seq (.reg false [⟨(some 4), .none, (.mov (.c (.string ⟨#[]⟩))), 0, []⟩, ⟨(some 5), .none, (.mov (.c (.bool false))), 1, []⟩]) .ret) .skip)) (.seq (.reg false [⟨(some 25), .none, (.mov (.t 0)), 0, []⟩, ⟨(some 26), .none, (.mov (.t 7)), 1, []⟩, ⟨(some 27), .none, (.bin .add (.c (.int .i64 1)) (.t 26)), 2, []⟩, ⟨(some 28), .none, (.slcS (.t 25) (.some (.t 27)) .none), 3, []⟩, ⟨(some 4), .none, (.mov (.t 28)), 4, []⟩, ⟨(some 5), .none, (.mov (.c (.bool true))), 5, []⟩]) .ret))))), [(.t 4), (.t 5)]⟩
theorem k100 : EE.fns 100 = some c100 := by kernel_rfl
def c118 : CF := ⟨13, (.seq (.reg false [⟨(some 4), .none, (.mov (.c (.bool false))), 0, []⟩]) (.seq (.reg false [⟨(some 5), .none, (.mov (.t 0)), 0, []⟩, ⟨(some 6), .none, (.call 96 [(.t 5)]), 1, []⟩, ⟨(some 7), .none, (.mov (.t 6)), 2, []⟩, ⟨(some 8), (.some (7, true)), (.mov (.t 0)), 3, []⟩, ⟨(some 9), (.some (7, true)), (.idx (.t 8) (.c (.int .i64 0))), 4, []⟩, ⟨(some 10), (.some (7, true)), (.mov (.t 1)), 5, []⟩, ⟨(some 11), (.some (7, true)), (.bin .eql (.t 9) (.t 10)), 6, []⟩, ⟨(some 12), .none, (.pick (.t 7) (.t 11) (.c (.bool false))), 7, []⟩, ⟨(some 4), .none, (.mov (.t 12)), 8, []⟩]) .ret)), [(.t 4)]⟩
theorem k118 : EE.fns 118 = some c118 := by kernel_rfl
end Go.Proofs.Ytpdkgbamakileaa.Ev

/- Lists of lines and of texts: comparisons, marks. -/
namespace Go.Proofs.Ytpdkgbamakileaa.Ev
set_option linter.all false
open Go
set_option maxRecDepth 4000

theorem f21 {H : Hp} {v u : Value} {l k : List ByteArray} (hl : SlS H v l) (hk : SlS H u k) : Scal EE 21 [v, u] H (.bool (decide (l = k))) := by
  refine scal_ok rfl rfl k21 (by simp [c21]) rfl fun m hw => ?_
  have hroom := hl.room
  simp only [go_sem, ↓reduceIte, Nat.reduceEqDiff, reduceCtorEq, Nat.reduceAdd, Nat.reduceLeDiff, Nat.reduceMul, c21, hl.len, hk.len]
  refine brT.intro (fun h1 => ?_) (fun h1 => ?_) <;> simp only [go_sem, ↓reduceIte, Nat.reduceEqDiff, reduceCtorEq, Nat.reduceAdd, Nat.reduceLeDiff, Nat.reduceMul]
  · have hlen : l.length = k.length := by simp at h1; omega
    refine go_for l.length (fun i s => s.H = H ∧ s.ρ 0 = .val v ∧ s.ρ 1 = .val u ∧ s.ρ 5 = .val (.int .i64 i) ∧ l.take i = k.take i) (fun s => s.H = H ∧ l = k) (by simp [upd, ini]) ?_ ?_
    · rintro i s hi ⟨hH, h0, h1, h5, hn⟩
      simp only [go_sem, ↓reduceIte, Nat.reduceEqDiff, reduceCtorEq, Nat.reduceAdd, Nat.reduceLeDiff, Nat.reduceMul, h0, h1, h5, hl.len]
      refine brT.intro (fun h2 => ?_) (fun h2 => ?_) <;> simp only [go_sem, ↓reduceIte, Nat.reduceEqDiff, reduceCtorEq, Nat.reduceAdd, Nat.reduceLeDiff, Nat.reduceMul, h0, h1, h5]
      · have h3 : i < l.length := by simpa using h2
        have h4 : i < k.length := by omega
        obtain ⟨id, p, o, ho, hr, hia⟩ := hl.str (List.getElem?_eq_getElem h3)
        obtain ⟨id2, p2, o2, ho2, hr2, hia2⟩ := hk.str (List.getElem?_eq_getElem h4)
        refine go_draw ?_
        simp only [go_sem, ↓reduceIte, Nat.reduceEqDiff, reduceCtorEq, Nat.reduceAdd, Nat.reduceLeDiff, Nat.reduceMul, h0, h1, h5, hia, hH, ho, hr, hia2, ho2, hr2, hw]
        refine ⟨by rfl, brT.intro (fun h6 => ?_) (fun h6 => ?_)⟩ <;> simp only [go_sem, ↓reduceIte, Nat.reduceEqDiff, reduceCtorEq, Nat.reduceAdd, Nat.reduceLeDiff, Nat.reduceMul, h0, h1, h5, wrap64 ((i : Int) + 1) (by omega) (by omega)]
        · refine ⟨h3, by simp, ?_⟩
          rw [List.take_succ_eq_append_getElem h3, List.take_succ_eq_append_getElem h4, hn]
          have : l[i] = k[i] := of_decide_eq_true h6
          rw [this]
        · have : ¬ l[i] = k[i] := of_decide_eq_false h6
          have : ¬ l = k := fun e => by subst e; exact this rfl
          simp [this]
      · have h3 : ¬ i < l.length := by simpa using h2
        rw [List.take_of_length_le (by omega), List.take_of_length_le (by omega)] at hn
        exact ⟨hH, hn⟩
    · rintro s ⟨hH, hn⟩
      simp only [go_sem, ↓reduceIte, Nat.reduceEqDiff, reduceCtorEq, Nat.reduceAdd, Nat.reduceLeDiff, Nat.reduceMul, hH, hn]
  · have : ¬ l = k := fun e => by subst e; simp at h1
    simp [this]


/-- Rows as long as before. -/
def SL (H H' : Hp) : Prop := H'.length = H.length ∧ ∀ (j : Nat) (o : List Value), H[j]? = some o → ∃ o' : List Value, H'[j]? = some o' ∧ o'.length = o.length
theorem SL.refl (H : Hp) : SL H H := ⟨rfl, fun j o h => ⟨o, h, rfl⟩⟩
theorem SL.trans {H H' H'' : Hp} (h : SL H H') (k : SL H' H'') : SL H H'' := ⟨k.1.trans h.1, fun j o ho => by
  obtain ⟨o', h1, h2⟩ := h.2 j o ho
  obtain ⟨o'', k1, k2⟩ := k.2 j o' h1
  exact ⟨o'', k1, k2.trans h2⟩⟩
theorem SL.set {H : Hp} {id : Nat} {o o' : List Value} (ho : H[id]? = some o) (hl : o'.length = o.length) : SL H (H.set id o') := ⟨by simp, fun j p hp => by
  by_cases e : id = j
  · subst e
    rw [ho] at hp
    cases hp
    exact ⟨o', List.getElem?_set_self (List.getElem?_eq_some_iff.1 ho).1, hl⟩
  · exact ⟨p, by rw [List.getElem?_set_ne e]; exact hp, rfl⟩⟩
theorem Sl.sl {α : Type} {esz : Nat} {H H' : Hp} {v : Value} {l : List α} (h : Sl (fun _ _ => True) esz H v l) (hs : SL H H') : Sl (fun (_ : α) _ => True) esz H' v l := by
  rcases h with ⟨rfl, rfl⟩ | ⟨id, off, cap, o, rfl, ho, hc, hn, hrm, hr⟩
  · exact .inl ⟨rfl, rfl⟩
  · obtain ⟨o', h1, h2⟩ := hs.2 id o ho
    exact .inr ⟨id, off, cap, o', rfl, h1, by rw [h2]; exact hc, hn, hrm, fun _ _ _ => trivial⟩
/-- Texts that are marks. -/
def markS (k : Int) (n : Nat) : List ByteArray := (List.range n).map fun (j : Nat) => markT (k + (j : Int))
theorem markS_len (k : Int) (n : Nat) : (markS k n).length = n := by simp [markS]
theorem markS_succ (k : Int) (n : Nat) : markS k (n + 1) = markS k n ++ [markT (k + n)] := by simp [markS, List.range_succ]

theorem f24 {m : Md} {H : Hp} {v : Value} {l : List ByteArray} {k : Int} (hl : SlS H v l) (hk : 0 ≤ k) (hk2 : k + l.length < 4611686018427387904) (hw0 : Wr m H) (hw : ∀ id ∈ idsOf v, m.wr id = true) :
    Fun EE m 24 [v, .int .i64 k] H fun r H' => r = .int .i64 (k + l.length) ∧ SlS H' v (markS k l.length) ∧ (∀ j, j ∉ idsOf v → H'[j]? = H[j]?) ∧ H'.length = H.length := by
  refine fun_f rfl rfl k24 (by simp [c24]) ?_
  have hroom := hl.room
  simp only [go_sem, ↓reduceIte, Nat.reduceEqDiff, reduceCtorEq, Nat.reduceAdd, Nat.reduceLeDiff, Nat.reduceMul, c24]
  refine go_for l.length (fun i s => s.ρ 0 = .val v ∧ s.ρ 1 = .val (.int .i64 (k + i)) ∧ s.ρ 5 = .val (.int .i64 i) ∧ SlS s.H v (markS k i ++ l.drop i) ∧ (∀ j, j ∉ idsOf v → s.H[j]? = H[j]?) ∧ s.H.length = H.length)
    (fun s => s.ρ 1 = .val (.int .i64 (k + l.length)) ∧ SlS s.H v (markS k l.length) ∧ (∀ j, j ∉ idsOf v → s.H[j]? = H[j]?) ∧ s.H.length = H.length) (by simpa [upd, ini, markS] using hl) ?_ ?_
  · rintro i s hi ⟨h0, h1, h5, hs, hf, hlen⟩
    have hll : (markS k i ++ l.drop i).length = l.length := by rw [List.length_append, markS_len, List.length_drop]; omega
    simp only [go_sem, ↓reduceIte, Nat.reduceEqDiff, reduceCtorEq, Nat.reduceAdd, Nat.reduceLeDiff, Nat.reduceMul, h0, h1, h5, hs.len, hll]
    refine brT.intro (fun h3 => ?_) (fun h3 => ?_) <;> simp only [go_sem, ↓reduceIte, Nat.reduceEqDiff, reduceCtorEq, Nat.reduceAdd, Nat.reduceLeDiff, Nat.reduceMul, h0, h1, h5]
    · have h4 : i < l.length := by simpa using h3
      obtain ⟨id, p, o, ho, hp, hid, hia, hst⟩ := hs.store (i := i) (by omega)
      have hwid := hw id (by rw [hid]; simp)
      have ws : Wr m s.H := fun j hj => hw0 j (by omega)
      have a62 := fun {m draw t d ts Q} => callT_at (m := m) (draw := draw) (s := t) (d := d) (ts := ts) (Q := Q) (f62 (H := s.H) (k := k + (i : Int)) (by omega))
      simp only [go_sem, ↓reduceIte, Nat.reduceEqDiff, reduceCtorEq, Nat.reduceAdd, Nat.reduceLeDiff, Nat.reduceMul, h0, h1, h5, a62, ws, hia, ho, hp, hwid, wrap64 ((i : Int) + 1) (by omega) (by omega), wrap64 (k + (i : Int) + 1) (by omega) (by omega)]
      refine ⟨h4, by simp [Int.add_assoc], by simp, ?_, fun j hj => ?_, by simp [hlen]⟩
      · have := hst (markT (k + i)) [.string (markT (k + i))] rfl rfl
        rw [List.set_append_right _ _ (by rw [markS_len]; omega), markS_len, Nat.sub_self, List.drop_eq_getElem_cons h4, List.set_cons_zero] at this
        rw [markS_succ, List.append_assoc, List.singleton_append]
        exact this
      · rw [List.getElem?_set_ne, hf j hj]
        rw [hid] at hj
        simp at hj
        omega
    · have h4 : ¬ i < l.length := by simpa using h3
      have hil : i = l.length := by omega
      subst hil
      rw [List.drop_length, List.append_nil] at hs
      exact ⟨rfl, hs, hf, hlen⟩
  · rintro s ⟨h1, hs, hf, hlen⟩
    simp only [go_sem, ↓reduceIte, Nat.reduceEqDiff, reduceCtorEq, Nat.reduceAdd, Nat.reduceLeDiff, Nat.reduceMul, h1]
    exact ⟨hs, hf, hlen⟩

end Go.Proofs.Ytpdkgbamakileaa.Ev

/- A sealed log: the reference's way to write it. -/
namespace Go.Proofs.Ytpdkgbamakileaa.Ev
set_option linter.all false
open Go
set_option maxRecDepth 4000

noncomputable def rowAt (k : Int) (l : List Ln) (j : Nat) : ByteArray := match l[j]? with
  | some z => sealLine k ((j + 1 : Nat) : Int) z
  | none => ⟨#[]⟩
def RowOk (k : Int) (l : List Ln) (j : Nat) : Prop := rowAt k l j ≠ ⟨#[]⟩ ∧ ∀ z z' : Ln, 0 < j → l[j - 1]? = some z → l[j]? = some z' → z.1 ≤ z'.1
noncomputable def rowsN (k : Int) (l : List Ln) (n : Nat) : List ByteArray := (List.range n).map (rowAt k l)
def AudOk (k : Int) (l : List Ln) : Prop := l.length ≤ 20 ∧ (∀ j, j < l.length → RowOk k l j) ∧ sealHead k l.length ≠ ⟨#[]⟩
open Classical in
noncomputable def audB (k : Int) (l : List Ln) : Bool := decide (AudOk k l)
noncomputable def audL (k : Int) (l : List Ln) : List ByteArray := if audB k l = true then rowsN k l l.length else []
noncomputable def audH (k : Int) (l : List Ln) : ByteArray := if audB k l = true then sealHead k l.length else ⟨#[]⟩
theorem audB_t {k : Int} {l : List Ln} : audB k l = true ↔ AudOk k l := by
  classical
  unfold audB; simp
theorem aud_no {k : Int} {l : List Ln} (h : ¬ AudOk k l) : audB k l = false ∧ audL k l = [] ∧ audH k l = ⟨#[]⟩ := by
  have hb : audB k l = false := by
    cases h2 : audB k l with
    | false => rfl
    | true => exact absurd (audB_t.1 h2) h
  unfold audL audH
  rw [hb]
  exact ⟨rfl, rfl, rfl⟩
def AudR (H : Hp) (k : Int) (l : List Ln) (r : Value) (H' : Hp) : Prop := ∃ w, r = .tuple #[w, .string (audH k l), .bool (audB k l)] ∧ H <+: H' ∧ SlS H' w (audL k l) ∧ OwnS H.length w
theorem AudR.no {H H' : Hp} {k : Int} {l : List Ln} {w : Value} (h : ¬ AudOk k l) (hp : H <+: H') (hs : SlS H' w []) (ho : OwnS H.length w) : AudR H k l (.tuple #[w, .string ⟨#[]⟩, .bool false]) H' := by
  obtain ⟨h1, h2, h3⟩ := aud_no h
  exact ⟨w, by rw [h1, h3], hp, by rw [h2]; exact hs, ho⟩

theorem Sl.oneS {m : Md} {N : Nat} {H : Hp} {v : Value} {l : List ByteArray} (a : ByteArray) (h : SlS H v l) (ho : OwnS N v) (hN : N ≤ H.length) (hw : ∀ id, N ≤ id → m.wr id = true) (hb : l.length < 1048576) :
    ∃ v' H', (∀ (s : St) (x y : X), s.H = H → exv s.ρ x = some v → ex s.ρ y = .vs 1 [.string a] → appK m s 1 16 x y = some (.val v', { s with H := H' })) ∧ SlS H' v' (l ++ [a]) ∧ OwnS N v' ∧
      (∀ j, j < H.length → j ∉ idsOf v → H'[j]? = H[j]?) ∧ H.length ≤ H'.length ∧ (∀ j ∈ idsOf v', j ∈ idsOf v ∨ H.length ≤ j) ∧ ∀ H0 : Hp, H0.length ≤ N → H0 <+: H → H0 <+: H' := by
  obtain ⟨v', H', h1, h2⟩ := h.app (m := m) (n := 1) (bytes := 16) (l2 := [a]) (cs := [.string a]) ho hN hw (fun _ => rfl) (by simp) rfl (fun i b hi => by
    cases i with
    | zero => simp at hi; subst hi; rfl
    | succ i => simp at hi) (by unfold Ev.room; simp; omega) (by unfold Ev.room; simp; omega)
  exact ⟨v', H', fun s x y hH hx hy => h1 s x y hH hx (by rw [hy]; rfl), h2⟩
theorem own_newS {H : Hp} : SlS (H ++ [[]]) (.slice (some ⟨H.length, 0, some 1⟩) 0 (0 * 1)) [] := .inr ⟨H.length, 0, 0, [], rfl, by simp, by simp, by simp, by simp, fun i a hi => by simp at hi⟩

end Go.Proofs.Ytpdkgbamakileaa.Ev

/- A sealed log: the program's way to write it; the law AuditAll. -/
namespace Go.Proofs.Ytpdkgbamakileaa.Ev
set_option linter.all false
open Go
set_option maxRecDepth 4000

theorem pre_keep {H H1 H2 : Hp} (h : H <+: H1) (hk : ∀ j, j < H.length → H2[j]? = H1[j]?) (hl : H1.length ≤ H2.length) : H <+: H2 := by
  rw [List.prefix_iff_eq_take]
  refine List.ext_getElem? fun j => ?_
  rw [List.getElem?_take]
  split
  · rename_i hj
    rw [hk j hj, pre_get h hj]
  · rw [List.getElem?_eq_none (by omega)]
theorem own_ge {N : Nat} {v : Value} (h : OwnS N v) : ∀ j ∈ idsOf v, N ≤ j := fun j hj => by
  rcases h with rfl | ⟨id, e, ln, cap, rfl, hid⟩
  · simp [idsOf] at hj
  · simp [idsOf] at hj; omega
theorem own_notin {x N : Nat} {v : Value} (h : OwnS N v) (hx : x < N) : x ∉ idsOf v := fun hm => by have := own_ge h x hm; omega
theorem Sl.keep {α : Type} {R : α → List Value → Prop} {esz : Nat} {H H' : Hp} {v w : Value} {l : List α} (h : Sl R esz H v l) (hd : ∀ j ∈ idsOf v, j ∉ idsOf w) (hf : ∀ j, j ∉ idsOf w → H'[j]? = H[j]?) : Sl R esz H' v l :=
  h.frame (fun _ _ _ h => h) fun id off e len cap hv => hf id (hd id (by subst hv; simp [idsOf]))

end Go.Proofs.Ytpdkgbamakileaa.Ev

/- Reading sealed lines: plain. -/
namespace Go.Proofs.Ytpdkgbamakileaa.Ev
set_option linter.all false
open Go
set_option maxRecDepth 4000

/-- The places between a list's parts, and the parts. -/
noncomputable def posN (s : ByteArray) (e0 j : Nat) : Nat := (itr (tmE s 8) j e0).getD 0
noncomputable def segL (s : ByteArray) (e0 n : Nat) : List ByteArray := (List.range n).map fun j => s.extract (posN s e0 j) (posN s e0 (j + 1))
theorem segL_len (s : ByteArray) (e0 n : Nat) : (segL s e0 n).length = n := by simp [segL]
theorem segL_succ (s : ByteArray) (e0 n : Nat) : segL s e0 (n + 1) = segL s e0 n ++ [s.extract (posN s e0 n) (posN s e0 (n + 1))] := by simp [segL, List.range_succ]

open Classical in
noncomputable def partsB (s : ByteArray) : Option (List ByteArray) := if tOk s = true ∧ s[0]? = some 108 then some (segL s (1 + (rdV (rest s 1)).2) (rdV (rest s 1)).1) else none
open Classical in
noncomputable def openB (s : ByteArray) (k : Int) : Option ByteArray := if tOk s = true ∧ s[0]? = some 115 ∧ ((rdV (rest s 1)).1 : Int) = k then some (rest s (1 + (rdV (rest s 1)).2)) else none
open Classical in
noncomputable def atomR (s : ByteArray) : Option ByteArray := if tOk s = true ∧ s[0]? = some 97 then some (rest s (1 + (rdV (rest s 1)).2)) else none
noncomputable def numR (s : ByteArray) : Option Int := match atomR s with
  | some d => if (rdV d).2 = 0 ∨ (rdV d).2 ≠ d.size then none else some ((rdV d).1 : Int)
  | none => none

/-- A term's head has its number. -/
theorem tOk_head {s : ByteArray} (h : tOk s = true) : ¬ (rdV (rest s 1)).2 = 0 ∧ ∃ c, s[0]? = some c := by
  have h8 := (tOk_t.1 h).2.2
  rw [show (8 : Nat) = 7 + 1 from rfl, tmE, tmStep] at h8
  cases hc : s[0]? with
  | none => rw [hc] at h8; cases h8
  | some c =>
    rw [hc] at h8
    simp only at h8
    refine ⟨fun e => ?_, c, rfl⟩
    rw [show (0 : Nat) + 1 = 1 from rfl, if_pos e] at h8
    cases h8
theorem tOk_list {s : ByteArray} (h : tOk s = true) (hc : s[0]? = some 108) : (rdV (rest s 1)).1 ≤ 12 ∧ itr (tmE s 7) (rdV (rest s 1)).1 (1 + (rdV (rest s 1)).2) = some s.size := by
  have h8 := (tOk_t.1 h).2.2
  have hk := (tOk_head h).1
  rw [show (8 : Nat) = 7 + 1 from rfl, tmE, tmStep, hc] at h8
  simp only [Nat.zero_add] at h8
  rw [if_neg hk, if_neg (by decide), if_neg (by decide), if_pos trivial] at h8
  split at h8
  · rename_i h2; exact ⟨h2, h8⟩
  · cases h8
/-- .. so all its parts stand. -/
theorem pos_some {s : ByteArray} (h : tOk s = true) (hc : s[0]? = some 108) : ∀ j, j ≤ (rdV (rest s 1)).1 → ∃ e, itr (tmE s 8) j (1 + (rdV (rest s 1)).2) = some e ∧ e ≤ s.size := by
  intro j hj
  obtain ⟨h12, h7⟩ := tOk_list h hc
  cases hit : itr (tmE s 7) j (1 + (rdV (rest s 1)).2) with
  | none => rw [itr_none hj hit] at h7; cases h7
  | some e =>
    have := itr_fmono (g := tmE s 8) (fun a e h => tm_mono h) hit
    have hr := rdV_le (rest s 1)
    rw [rest_size] at hr
    have h1 := (tOk_t.1 h).1
    exact ⟨e, this, (itr_le (s := s) (f := tmE s 8) (fun a e h => tmE_le h) (by omega) this).2⟩
theorem pos_next {s : ByteArray} {e0 j e e' : Nat} (h : itr (tmE s 8) j e0 = some e) (h2 : itr (tmE s 8) (j + 1) e0 = some e') : tmE s 8 e = some e' := by
  rw [itr_succ, h] at h2
  exact h2

theorem extract_mid {x t y : ByteArray} : (x ++ t ++ y).extract x.size (x.size + t.size) = t := by
  refine ByteArray.ext ?_
  rw [ByteArray.data_extract, ByteArray.data_append, ByteArray.data_append]
  have e1 : x.size = x.data.size := rfl
  have e2 : t.size = t.data.size := rfl
  rw [e1, e2, Array.append_assoc, Array.extract_append, Array.extract_append]
  have z1 : x.data.extract x.data.size (x.data.size + t.data.size) = #[] := Array.extract_empty_of_size_le_start (Nat.le_refl _)
  have z2 : x.data.size - x.data.size = 0 := Nat.sub_self _
  have z3 : x.data.size + t.data.size - x.data.size = t.data.size := by omega
  rw [z1, z2, z3]
  simp
theorem ch_get (c : UInt8) (y : ByteArray) : ((⟨#[c]⟩ : ByteArray) ++ y)[0]? = some c := by
  rw [cat_left (by show 0 < 1; omega)]
  rfl

end Go.Proofs.Ytpdkgbamakileaa.Ev

/- Reading seals, atoms and numbers: both ways. -/
namespace Go.Proofs.Ytpdkgbamakileaa.Ev
set_option linter.all false
open Go
set_option maxRecDepth 4000

theorem slc_mid {s : St} {x y z : X} {b : ByteArray} {i k : Nat} (hi : i ≤ k) (hk : k ≤ b.size) (hx : exv s.ρ x = some (.string b)) (hy : exv s.ρ y = some (.int .i64 i)) (hz : exv s.ρ z = some (.int .i64 k)) : slcSK s x (some y) (some z) = some (.val (.string (b.extract i k)), s) := by
  unfold slcSK
  rw [hx]
  simp only [bnd, hy, hz]
  rw [if_pos ⟨by omega, by omega, by omega⟩]
  rfl

open Classical in
/-- A term of a kind. -/
noncomputable def isB (s : ByteArray) (c : UInt8) : Bool := tOk s && decide (s[0]? = some c)
theorem isB_t {s : ByteArray} {c : UInt8} : isB s c = true ↔ tOk s = true ∧ s[0]? = some c := by
  unfold isB; simp
def opV : Option ByteArray → Value
  | some t => .tuple #[.string t, .bool true]
  | none => .tuple #[.string ⟨#[]⟩, .bool false]
theorem opV_flat (o : Option ByteArray) : flatScal (opV o) = true := by cases o <;> rfl
theorem openB_no {s : ByteArray} {k : Int} (h : isB s 115 = false) : openB s k = none := by
  unfold openB
  rw [if_neg]
  rintro ⟨h1, h2, _⟩
  rw [isB_t.2 ⟨h1, h2⟩] at h
  cases h
theorem openB_ne {s : ByteArray} {k : Int} (h : ¬ ((rdV (rest s 1)).1 : Int) = k) : openB s k = none := by
  unfold openB
  rw [if_neg fun h2 => h h2.2.2]
theorem openB_yes {s : ByteArray} {k : Int} (h : isB s 115 = true) (h2 : ((rdV (rest s 1)).1 : Int) = k) : openB s k = some (rest s (1 + (rdV (rest s 1)).2)) := by
  unfold openB
  rw [if_pos ⟨(isB_t.1 h).1, (isB_t.1 h).2, h2⟩]
theorem partsB_no {s : ByteArray} (h : isB s 108 = false) : partsB s = none := by
  unfold partsB
  rw [if_neg]
  rintro ⟨h1, h2⟩
  rw [isB_t.2 ⟨h1, h2⟩] at h
  cases h
theorem partsB_yes {s : ByteArray} (h : isB s 108 = true) : partsB s = some (segL s (1 + (rdV (rest s 1)).2) (rdV (rest s 1)).1) := by
  unfold partsB
  rw [if_pos (isB_t.1 h)]

theorem chd (q : Nat) (hq : q < 256) (c : UInt8) : decide (((c.toNat : Nat) : Int) = (q : Int)) = decide (c = UInt8.ofNat q) := by
  rw [Bool.eq_iff_iff]; simp only [decide_eq_true_eq]; exact ch_eq hq
theorem chd108 (c : UInt8) : decide (((c.toNat : Nat) : Int) = 108) = decide (c = 108) := chd 108 (by decide) c
theorem chd115 (c : UInt8) : decide (((c.toNat : Nat) : Int) = 115) = decide (c = 115) := chd 115 (by decide) c

theorem f118 {H : Hp} {s : ByteArray} {q : Int} {cq : UInt8} (hs : s.size ≤ 4611686018427387904) (hq : ∀ c : UInt8, decide (((c.toNat : Nat) : Int) = q) = decide (c = cq)) : Scal EE 118 [.string s, .int .u8 q] H (.bool (isB s cq)) := by
  refine scal_ok rfl rfl k118 (by simp [c118]) rfl fun m hw => ?_
  have a96 := fun {m draw t d ts Q} => callT_at (m := m) (draw := draw) (s := t) (d := d) (ts := ts) (Q := Q) (f96 (H := H) hs)
  unfold isB
  cases h : tOk s with
  | false => simp only [go_sem, ↓reduceIte, Nat.reduceEqDiff, reduceCtorEq, Nat.reduceAdd, Nat.reduceLeDiff, Nat.reduceMul, c118, a96, hw, h]
  | true =>
    obtain ⟨c, hc⟩ := (tOk_head h).2
    have hix : ∀ {t : St} {x : X}, exv t.ρ x = some (.string s) → idxK t x (.c (.int .i64 0)) = some (.val (.int .u8 c.toNat), t) := fun {t x} hx => idx_at (i := 0) hc hx rfl
    have e : decide (s[0]? = some cq) = decide (c = cq) := by rw [hc]; simp
    simp only [go_sem, ↓reduceIte, Nat.reduceEqDiff, reduceCtorEq, Nat.reduceAdd, Nat.reduceLeDiff, Nat.reduceMul, c118, a96, hw, h, hix, hq, e]

/-- What the first number of a term needs. -/
theorem head_le {s : ByteArray} (h : tOk s = true) : 1 ≤ s.size ∧ s.size ≤ 900 ∧ 1 + (rdV (rest s 1)).2 ≤ s.size ∧ (rdV (rest s 1)).1 ≤ 562949953421311 := by
  have h1 := tOk_t.1 h
  have hr := rdV_le (rest s 1)
  rw [rest_size] at hr
  have := h1.1
  have := h1.2.1
  omega
theorem va_yes {s : ByteArray} (h : tOk s = true) : vaN s 1 = ((rdV (rest s 1)).1 : Int) := by
  unfold vaN
  rw [if_neg (tOk_head h).1]

noncomputable def sealedV (s : ByteArray) : Value := if isB s 115 = true then .tuple #[.int .i64 ((rdV (rest s 1)).1 : Nat), .string (rest s (1 + (rdV (rest s 1)).2)), .bool true] else .tuple #[.int .i64 0, .string ⟨#[]⟩, .bool false]
theorem f83 {H : Hp} {s : ByteArray} (hs : s.size ≤ 4611686018427387904) : Scal EE 83 [.string s] H (sealedV s) := by
  refine scal_ok rfl rfl k83 (by simp [c83]) (by unfold sealedV; split <;> rfl) fun m hw => ?_
  have a118 := fun {m draw t d ts Q} => callT_at (m := m) (draw := draw) (s := t) (d := d) (ts := ts) (Q := Q) (f118 (H := H) hs chd115)
  unfold sealedV
  cases h : isB s 115 with
  | false => simp only [go_sem, ↓reduceIte, Nat.reduceEqDiff, reduceCtorEq, Nat.reduceAdd, Nat.reduceLeDiff, Nat.reduceMul, c83, a118, hw, h]
  | true =>
    have ht := (isB_t.1 h).1
    have hz := head_le ht
    have a119 := fun {m draw t d ts Q} => callT_at (m := m) (draw := draw) (s := t) (d := d) (ts := ts) (Q := Q) (f119 (H := H) (a := 1) hs (by omega))
    have a119 : ∀ {m : Md} {draw : Bool} {t : St} {d' : Option Nat} {ts : List Tk} {Q : Ex → St → Prop}, t.H = H → Wr m H → callT EE m draw 119 (some [.string s, .int .i64 1]) t d' ts Q = go EE m ts { t with ρ := upd t.ρ d' (.val (.tuple #[.int .i64 ((rdV (rest s 1)).1 : Nat), .int .i64 ((1 + (rdV (rest s 1)).2 : Nat) : Int)])) } Q := fun {m draw t d' ts Q} h1 h2 => by rw [← va_yes ht]; exact a119 h1 h2
    have hsl := fun {t : St} {x y : X} => slc_rest (s := t) (x := x) (y := y) (b := s) (k := 1 + (rdV (rest s 1)).2) hz.2.2.1
    simp only [go_sem, ↓reduceIte, Nat.reduceEqDiff, reduceCtorEq, Nat.reduceAdd, Nat.reduceLeDiff, Nat.reduceMul, c83, a118, hw, h, a119, List.getElem?_toArray]
    refine go_draw ?_
    simp only [go_sem, ↓reduceIte, Nat.reduceEqDiff, reduceCtorEq, Nat.reduceAdd, Nat.reduceLeDiff, Nat.reduceMul, hsl]
    rfl

theorem f100 {H : Hp} {s : ByteArray} {k : Int} (hs : s.size ≤ 4611686018427387904) : Scal EE 100 [.string s, .int .i64 k] H (opV (openB s k)) := by
  refine scal_ok rfl rfl k100 (by simp [c100]) (opV_flat _) fun m hw => ?_
  have a88 := fun {m draw t d ts Q} => callT_at (m := m) (draw := draw) (s := t) (d := d) (ts := ts) (Q := Q) (f88 (H := H) hs)
  cases ht : tOk s with
  | false =>
    rw [openB_no (by unfold isB; rw [ht]; rfl)]
    simp only [go_sem, ↓reduceIte, Nat.reduceEqDiff, reduceCtorEq, Nat.reduceAdd, Nat.reduceLeDiff, Nat.reduceMul, c100, a88, hw, ht, opV]
  | true =>
    obtain ⟨c, hc⟩ := (tOk_head ht).2
    have hz := head_le ht
    have hix : ∀ {t : St} {x : X}, exv t.ρ x = some (.string s) → idxK t x (.c (.int .i64 0)) = some (.val (.int .u8 c.toNat), t) := fun {t x} hx => idx_at (i := 0) hc hx rfl
    have hrs := rest_size s 1
    have a127 := fun {m draw t d ts Q} => callT_at (m := m) (draw := draw) (s := t) (d := d) (ts := ts) (Q := Q) (f127 (H := H) (s := rest s 1) (by omega))
    have hsl1 : ∀ {t : St} {x : X}, exv t.ρ x = some (.string s) → slcSK t x (some (.c (.int .i64 1))) none = some (.val (.string (rest s 1)), t) := fun {t x} hx => slc_rest (k := 1) (by omega) hx rfl
    have hsl2 : ∀ {t : St} {x y : X}, exv t.ρ x = some (.string s) → exv t.ρ y = some (.int .i64 (1 + ((rdV (rest s 1)).2 : Int))) → slcSK t x (some y) none = some (.val (.string (rest s (1 + (rdV (rest s 1)).2))), t) := fun {t x y} hx hy => slc_rest (k := 1 + (rdV (rest s 1)).2) hz.2.2.1 hx (by rw [hy]; rfl)
    have w1 : IntKind.i64.wrap (1 + ((rdV (rest s 1)).2 : Int)) = 1 + ((rdV (rest s 1)).2 : Int) := wrap64 _ (by omega) (by omega)
    simp only [go_sem, ↓reduceIte, Nat.reduceEqDiff, reduceCtorEq, Nat.reduceAdd, Nat.reduceLeDiff, Nat.reduceMul, c100, a88, hw, ht, hix, chd115]
    refine brT.intro (fun q => ?_) (fun q => ?_) <;> simp only [go_sem, ↓reduceIte, Nat.reduceEqDiff, reduceCtorEq, Nat.reduceAdd, Nat.reduceLeDiff, Nat.reduceMul, q, hsl1, a127, hw, List.getElem?_toArray]
    · have q : c = 115 := by simpa using q
      have hB : isB s 115 = true := isB_t.2 ⟨ht, by rw [hc, q]⟩
      refine brT.intro (fun q2 => ?_) (fun q2 => ?_) <;> simp only [go_sem, ↓reduceIte, Nat.reduceEqDiff, reduceCtorEq, Nat.reduceAdd, Nat.reduceLeDiff, Nat.reduceMul, q2, w1, hsl2]
      · have q2 : ((rdV (rest s 1)).1 : Int) = k := by simpa using q2
        rw [openB_yes hB q2]
        rfl
      · have q2 : ¬ ((rdV (rest s 1)).1 : Int) = k := by simpa using q2
        rw [openB_ne q2]
        rfl
    · have q : ¬ c = 115 := by simpa using q
      rw [openB_no (by unfold isB; rw [hc]; simp [q])]
      rfl

end Go.Proofs.Ytpdkgbamakileaa.Ev
