/- Texts of this proof, laid one behind the other: what each shows stands at its head. -/
import Derived.Test.YtpdkgbamakileaaB3
/- Numbers as bytes: the program's and the reference's. -/
namespace Go.Proofs.Ytpdkgbamakileaa.Ev
set_option linter.all false
open Go
set_option maxRecDepth 4000

theorem f90 {H : Hp} {a b c : Int} : Scal EE 90 [.int .i64 a, .int .i64 b, .int .i64 c] H (.bool (decide (a ≥ b) && decide (a ≤ c))) := by
  refine scal_ok rfl rfl k90 (by simp [c90]) rfl fun m hw => ?_
  simp only [go_nil, go_blk, go_skip, go_ret, go_exit, go_seq, go_block, go_reg, go_r0, go_r, go_d0, go_d, go_e0, go_e, box2, Option.isSome_some, Nat.le_refl, go_cond, go_o, go_g, aft_some, cnd_bool, grd_bool, grd_tup, brT_true, brT_false, brT_not, thr_exit, thr_c, thr_nil, stp, stepK, movK, mv1, ex, exv, exvs, upd_some, upd_none, ini, St.val, binK, binV, ofV, pickK, unK, unV, beqK, beq_true, beq_false, if_true, if_false, List.getElem?_cons_zero, List.getElem?_cons_succ, ↓reduceIte, Nat.reduceEqDiff, reduceCtorEq, loadK, adr, deref, Ad.fv, Ad.live, fadrK, List.length_cons, List.length_nil, List.drop_zero, List.drop_succ_cons, List.take_succ_cons, List.take_zero, Nat.reduceAdd, Nat.reduceLeDiff, Nat.zero_add, Nat.add_zero, aeqK, agEq, scEq, boxVK, newVK, exc, vc_agg, vc_int, vc_bool, vc_str, vc_ptr, vc_sl, vc_fn, boxOf, adInf, List.reverse_cons, List.reverse_nil, List.nil_append, List.cons_append, extK, Bool.and_true, Bool.true_and, Bool.not_true, Bool.not_false, resT, resVs, resV, true_and, and_true, storeK, spl_nil, spl_z, spl_1, spl_2, spl_3, spl_4, spl_5, spl_6, spl_7, spl_8, scal_int, scal_bool, scal_str, scal_nil, implies_true, Bool.and_self, Post_ret, Post_normal, PostS_ret, PostS_normal, retT_true, retT_false, flat_bool, flat_int, flat_str, List.take_length, decide_true, decide_false, Option.some.injEq, Value.bool.injEq, Value.int.injEq, Bool.false_and, Bool.and_false, not_false_eq_true, not_true_eq_false, toIntK, List.length_set, Nat.reduceMul, Bool.not_eq_true, Bool.not_eq_false, List.all_cons, List.all_nil, exps, fillL, buildK, strK, nilcK, fnK, callVT, List.size_toArray, List.append_nil, List.singleton_append, boxOK, newOK, scal_nil, List.isEmpty_nil, List.isEmpty_cons, mkVK, mkOK, mkCells, zeros_0, zeros_1, zeros_2, zeros_3, zeros_4, List.map_cons, List.map_nil, c90]
  refine brT.intro (fun h => ?_) (fun h => ?_) <;> simp only [go_nil, go_blk, go_skip, go_ret, go_exit, go_seq, go_block, go_reg, go_r0, go_r, go_d0, go_d, go_e0, go_e, box2, Option.isSome_some, Nat.le_refl, go_cond, go_o, go_g, aft_some, cnd_bool, grd_bool, grd_tup, brT_true, brT_false, brT_not, thr_exit, thr_c, thr_nil, stp, stepK, movK, mv1, ex, exv, exvs, upd_some, upd_none, ini, St.val, binK, binV, ofV, pickK, unK, unV, beqK, beq_true, beq_false, if_true, if_false, List.getElem?_cons_zero, List.getElem?_cons_succ, ↓reduceIte, Nat.reduceEqDiff, reduceCtorEq, loadK, adr, deref, Ad.fv, Ad.live, fadrK, List.length_cons, List.length_nil, List.drop_zero, List.drop_succ_cons, List.take_succ_cons, List.take_zero, Nat.reduceAdd, Nat.reduceLeDiff, Nat.zero_add, Nat.add_zero, aeqK, agEq, scEq, boxVK, newVK, exc, vc_agg, vc_int, vc_bool, vc_str, vc_ptr, vc_sl, vc_fn, boxOf, adInf, List.reverse_cons, List.reverse_nil, List.nil_append, List.cons_append, extK, Bool.and_true, Bool.true_and, Bool.not_true, Bool.not_false, resT, resVs, resV, true_and, and_true, storeK, spl_nil, spl_z, spl_1, spl_2, spl_3, spl_4, spl_5, spl_6, spl_7, spl_8, scal_int, scal_bool, scal_str, scal_nil, implies_true, Bool.and_self, Post_ret, Post_normal, PostS_ret, PostS_normal, retT_true, retT_false, flat_bool, flat_int, flat_str, List.take_length, decide_true, decide_false, Option.some.injEq, Value.bool.injEq, Value.int.injEq, Bool.false_and, Bool.and_false, not_false_eq_true, not_true_eq_false, toIntK, List.length_set, Nat.reduceMul, Bool.not_eq_true, Bool.not_eq_false, List.all_cons, List.all_nil, exps, fillL, buildK, strK, nilcK, fnK, callVT, List.size_toArray, List.append_nil, List.singleton_append, boxOK, newOK, scal_nil, List.isEmpty_nil, List.isEmpty_cons, mkVK, mkOK, mkCells, zeros_0, zeros_1, zeros_2, zeros_3, zeros_4, List.map_cons, List.map_nil, h]
theorem c90' {m : Md} {draw : Bool} {s : St} {d : Option Nat} {ts : List Tk} {Q : Ex → St → Prop} {a b c : Int} (hw : Wr m s.H) :
    callT EE m draw 90 (some [.int .i64 a, .int .i64 b, .int .i64 c]) s d ts Q = go EE m ts { s with ρ := upd s.ρ d (.val (.bool (decide (a ≥ b) && decide (a ≤ c)))) } Q := callT_at f90 rfl hw
theorem f112 {H : Hp} {a b c : Int} : Scal EE 112 [.int .i64 a, .int .i64 b, .int .i64 c] H (.bool (decide (a ≥ b) && decide (a ≤ c))) := by
  refine scal_ok rfl rfl k112 (by simp [c112]) rfl fun m hw => ?_
  simp only [go_nil, go_blk, go_skip, go_ret, go_exit, go_seq, go_block, go_reg, go_r0, go_r, go_d0, go_d, go_e0, go_e, box2, Option.isSome_some, Nat.le_refl, go_cond, go_o, go_g, aft_some, cnd_bool, grd_bool, grd_tup, brT_true, brT_false, brT_not, thr_exit, thr_c, thr_nil, stp, stepK, movK, mv1, ex, exv, exvs, upd_some, upd_none, ini, St.val, binK, binV, ofV, pickK, unK, unV, beqK, beq_true, beq_false, if_true, if_false, List.getElem?_cons_zero, List.getElem?_cons_succ, ↓reduceIte, Nat.reduceEqDiff, reduceCtorEq, loadK, adr, deref, Ad.fv, Ad.live, fadrK, List.length_cons, List.length_nil, List.drop_zero, List.drop_succ_cons, List.take_succ_cons, List.take_zero, Nat.reduceAdd, Nat.reduceLeDiff, Nat.zero_add, Nat.add_zero, aeqK, agEq, scEq, boxVK, newVK, exc, vc_agg, vc_int, vc_bool, vc_str, vc_ptr, vc_sl, vc_fn, boxOf, adInf, List.reverse_cons, List.reverse_nil, List.nil_append, List.cons_append, extK, Bool.and_true, Bool.true_and, Bool.not_true, Bool.not_false, resT, resVs, resV, true_and, and_true, storeK, spl_nil, spl_z, spl_1, spl_2, spl_3, spl_4, spl_5, spl_6, spl_7, spl_8, scal_int, scal_bool, scal_str, scal_nil, implies_true, Bool.and_self, Post_ret, Post_normal, PostS_ret, PostS_normal, retT_true, retT_false, flat_bool, flat_int, flat_str, List.take_length, decide_true, decide_false, Option.some.injEq, Value.bool.injEq, Value.int.injEq, Bool.false_and, Bool.and_false, not_false_eq_true, not_true_eq_false, toIntK, List.length_set, Nat.reduceMul, Bool.not_eq_true, Bool.not_eq_false, List.all_cons, List.all_nil, exps, fillL, buildK, strK, nilcK, fnK, callVT, List.size_toArray, List.append_nil, List.singleton_append, boxOK, newOK, scal_nil, List.isEmpty_nil, List.isEmpty_cons, mkVK, mkOK, mkCells, zeros_0, zeros_1, zeros_2, zeros_3, zeros_4, List.map_cons, List.map_nil, c112]
  refine brT.intro (fun h => ?_) (fun h => ?_) <;> simp only [go_nil, go_blk, go_skip, go_ret, go_exit, go_seq, go_block, go_reg, go_r0, go_r, go_d0, go_d, go_e0, go_e, box2, Option.isSome_some, Nat.le_refl, go_cond, go_o, go_g, aft_some, cnd_bool, grd_bool, grd_tup, brT_true, brT_false, brT_not, thr_exit, thr_c, thr_nil, stp, stepK, movK, mv1, ex, exv, exvs, upd_some, upd_none, ini, St.val, binK, binV, ofV, pickK, unK, unV, beqK, beq_true, beq_false, if_true, if_false, List.getElem?_cons_zero, List.getElem?_cons_succ, ↓reduceIte, Nat.reduceEqDiff, reduceCtorEq, loadK, adr, deref, Ad.fv, Ad.live, fadrK, List.length_cons, List.length_nil, List.drop_zero, List.drop_succ_cons, List.take_succ_cons, List.take_zero, Nat.reduceAdd, Nat.reduceLeDiff, Nat.zero_add, Nat.add_zero, aeqK, agEq, scEq, boxVK, newVK, exc, vc_agg, vc_int, vc_bool, vc_str, vc_ptr, vc_sl, vc_fn, boxOf, adInf, List.reverse_cons, List.reverse_nil, List.nil_append, List.cons_append, extK, Bool.and_true, Bool.true_and, Bool.not_true, Bool.not_false, resT, resVs, resV, true_and, and_true, storeK, spl_nil, spl_z, spl_1, spl_2, spl_3, spl_4, spl_5, spl_6, spl_7, spl_8, scal_int, scal_bool, scal_str, scal_nil, implies_true, Bool.and_self, Post_ret, Post_normal, PostS_ret, PostS_normal, retT_true, retT_false, flat_bool, flat_int, flat_str, List.take_length, decide_true, decide_false, Option.some.injEq, Value.bool.injEq, Value.int.injEq, Bool.false_and, Bool.and_false, not_false_eq_true, not_true_eq_false, toIntK, List.length_set, Nat.reduceMul, Bool.not_eq_true, Bool.not_eq_false, List.all_cons, List.all_nil, exps, fillL, buildK, strK, nilcK, fnK, callVT, List.size_toArray, List.append_nil, List.singleton_append, boxOK, newOK, scal_nil, List.isEmpty_nil, List.isEmpty_cons, mkVK, mkOK, mkCells, zeros_0, zeros_1, zeros_2, zeros_3, zeros_4, List.map_cons, List.map_nil, h]
theorem c112' {m : Md} {draw : Bool} {s : St} {d : Option Nat} {ts : List Tk} {Q : Ex → St → Prop} {a b c : Int} (hw : Wr m s.H) :
    callT EE m draw 112 (some [.int .i64 a, .int .i64 b, .int .i64 c]) s d ts Q = go EE m ts { s with ρ := upd s.ρ d (.val (.bool (decide (a ≥ b) && decide (a ≤ c)))) } Q := callT_at f112 rfl hw

theorem varB_in {n : Int} (h : (decide (n ≥ 0) && decide (n ≤ 562949953421311)) = true) : 0 ≤ n ∧ n ≤ 562949953421311 := by simpa using h
theorem varB_out {n : Int} (h : (decide (n ≥ 0) && decide (n ≤ 562949953421311)) = false) : varB n = ⟨#[]⟩ := by
  unfold varB
  rw [if_neg (fun h2 => by simp at h; omega)]
  rfl
theorem ne128 : ¬ ((128 : Int) = 0) := by decide

theorem f94 {H : Hp} {n : Int} : Scal EE 94 [.int .i64 n] H (.string (varB n)) := by
  refine scal_ok rfl rfl k94 (by simp [c94]) rfl fun m hw => ?_
  simp only [go_nil, go_blk, go_skip, go_ret, go_exit, go_seq, go_block, go_reg, go_r0, go_r, go_d0, go_d, go_e0, go_e, box2, Option.isSome_some, Nat.le_refl, go_cond, go_o, go_g, aft_some, cnd_bool, grd_bool, grd_tup, brT_true, brT_false, brT_not, thr_exit, thr_c, thr_nil, stp, stepK, movK, mv1, ex, exv, exvs, upd_some, upd_none, ini, St.val, binK, binV, ofV, pickK, unK, unV, beqK, beq_true, beq_false, if_true, if_false, List.getElem?_cons_zero, List.getElem?_cons_succ, ↓reduceIte, Nat.reduceEqDiff, reduceCtorEq, loadK, adr, deref, Ad.fv, Ad.live, fadrK, List.length_cons, List.length_nil, List.drop_zero, List.drop_succ_cons, List.take_succ_cons, List.take_zero, Nat.reduceAdd, Nat.reduceLeDiff, Nat.zero_add, Nat.add_zero, aeqK, agEq, scEq, boxVK, newVK, exc, vc_agg, vc_int, vc_bool, vc_str, vc_ptr, vc_sl, vc_fn, boxOf, adInf, List.reverse_cons, List.reverse_nil, List.nil_append, List.cons_append, extK, Bool.and_true, Bool.true_and, Bool.not_true, Bool.not_false, resT, resVs, resV, true_and, and_true, storeK, spl_nil, spl_z, spl_1, spl_2, spl_3, spl_4, spl_5, spl_6, spl_7, spl_8, scal_int, scal_bool, scal_str, scal_nil, implies_true, Bool.and_self, Post_ret, Post_normal, PostS_ret, PostS_normal, retT_true, retT_false, flat_bool, flat_int, flat_str, List.take_length, decide_true, decide_false, Option.some.injEq, Value.bool.injEq, Value.int.injEq, Bool.false_and, Bool.and_false, not_false_eq_true, not_true_eq_false, toIntK, List.length_set, Nat.reduceMul, Bool.not_eq_true, Bool.not_eq_false, List.all_cons, List.all_nil, exps, fillL, buildK, strK, nilcK, fnK, callVT, List.size_toArray, List.append_nil, List.singleton_append, boxOK, newOK, scal_nil, List.isEmpty_nil, List.isEmpty_cons, mkVK, mkOK, mkCells, zeros_0, zeros_1, zeros_2, zeros_3, zeros_4, List.map_cons, List.map_nil, c94, c90', hw, fillL]
  refine brT.intro (fun h => ?_) (fun h => ?_) <;> simp only [go_nil, go_blk, go_skip, go_ret, go_exit, go_seq, go_block, go_reg, go_r0, go_r, go_d0, go_d, go_e0, go_e, box2, Option.isSome_some, Nat.le_refl, go_cond, go_o, go_g, aft_some, cnd_bool, grd_bool, grd_tup, brT_true, brT_false, brT_not, thr_exit, thr_c, thr_nil, stp, stepK, movK, mv1, ex, exv, exvs, upd_some, upd_none, ini, St.val, binK, binV, ofV, pickK, unK, unV, beqK, beq_true, beq_false, if_true, if_false, List.getElem?_cons_zero, List.getElem?_cons_succ, ↓reduceIte, Nat.reduceEqDiff, reduceCtorEq, loadK, adr, deref, Ad.fv, Ad.live, fadrK, List.length_cons, List.length_nil, List.drop_zero, List.drop_succ_cons, List.take_succ_cons, List.take_zero, Nat.reduceAdd, Nat.reduceLeDiff, Nat.zero_add, Nat.add_zero, aeqK, agEq, scEq, boxVK, newVK, exc, vc_agg, vc_int, vc_bool, vc_str, vc_ptr, vc_sl, vc_fn, boxOf, adInf, List.reverse_cons, List.reverse_nil, List.nil_append, List.cons_append, extK, Bool.and_true, Bool.true_and, Bool.not_true, Bool.not_false, resT, resVs, resV, true_and, and_true, storeK, spl_nil, spl_z, spl_1, spl_2, spl_3, spl_4, spl_5, spl_6, spl_7, spl_8, scal_int, scal_bool, scal_str, scal_nil, implies_true, Bool.and_self, Post_ret, Post_normal, PostS_ret, PostS_normal, retT_true, retT_false, flat_bool, flat_int, flat_str, List.take_length, decide_true, decide_false, Option.some.injEq, Value.bool.injEq, Value.int.injEq, Bool.false_and, Bool.and_false, not_false_eq_true, not_true_eq_false, toIntK, List.length_set, Nat.reduceMul, Bool.not_eq_true, Bool.not_eq_false, List.all_cons, List.all_nil, exps, fillL, buildK, strK, nilcK, fnK, callVT, List.size_toArray, List.append_nil, List.singleton_append, boxOK, newOK, scal_nil, List.isEmpty_nil, List.isEmpty_cons, mkVK, mkOK, mkCells, zeros_0, zeros_1, zeros_2, zeros_3, zeros_4, List.map_cons, List.map_nil, fillL]
  rotate_left
  · rw [varB_out h]
  obtain ⟨h0, h1⟩ := varB_in h
  obtain ⟨k, rfl⟩ : ∃ k : Nat, n = k := ⟨n.toNat, by omega⟩
  have hV : varB (k : Int) = strOf (varL k) := by unfold varB; rw [if_pos ⟨h0, h1⟩]; rfl
  have h7 : (128 : Nat) ^ (6 + 1) = 562949953421312 := by decide
  have hlen := varL_len 6 k (by omega)
  rw [hV]
  refine go_loop (fun j s => H <+: s.H ∧ s.ρ 0 = .val (.int .i64 j) ∧ j ≤ k ∧ ∃ wv l, s.ρ 3 = .val wv ∧ SlN s.H wv l ∧ OwnS H.length wv ∧ l ++ varL j = varL k)
    (fun s => H <+: s.H ∧ ∃ (j : Nat) (wv : Value) (l : List Nat), s.ρ 0 = .val (.int .i64 j) ∧ j < 128 ∧ s.ρ 3 = .val wv ∧ SlN s.H wv l ∧ OwnS H.length wv ∧ l ++ [j] = varL k) k ?_ ?_ ?_
  · exact ⟨List.prefix_append _ _, by simp [upd, ini], Nat.le_refl _, _, [], by simp [upd], own_newN, .inr ⟨_, _, _, _, rfl, Nat.le_refl _⟩, rfl⟩
  · rintro j s ⟨hH, h0', hj, wv, l, h3, hs, ho, hl⟩
    simp only [go_nil, go_blk, go_skip, go_ret, go_exit, go_seq, go_block, go_reg, go_r0, go_r, go_d0, go_d, go_e0, go_e, box2, Option.isSome_some, Nat.le_refl, go_cond, go_o, go_g, aft_some, cnd_bool, grd_bool, grd_tup, brT_true, brT_false, brT_not, thr_exit, thr_c, thr_nil, stp, stepK, movK, mv1, ex, exv, exvs, upd_some, upd_none, ini, St.val, binK, binV, ofV, pickK, unK, unV, beqK, beq_true, beq_false, if_true, if_false, List.getElem?_cons_zero, List.getElem?_cons_succ, ↓reduceIte, Nat.reduceEqDiff, reduceCtorEq, loadK, adr, deref, Ad.fv, Ad.live, fadrK, List.length_cons, List.length_nil, List.drop_zero, List.drop_succ_cons, List.take_succ_cons, List.take_zero, Nat.reduceAdd, Nat.reduceLeDiff, Nat.zero_add, Nat.add_zero, aeqK, agEq, scEq, boxVK, newVK, exc, vc_agg, vc_int, vc_bool, vc_str, vc_ptr, vc_sl, vc_fn, boxOf, adInf, List.reverse_cons, List.reverse_nil, List.nil_append, List.cons_append, extK, Bool.and_true, Bool.true_and, Bool.not_true, Bool.not_false, resT, resVs, resV, true_and, and_true, storeK, spl_nil, spl_z, spl_1, spl_2, spl_3, spl_4, spl_5, spl_6, spl_7, spl_8, scal_int, scal_bool, scal_str, scal_nil, implies_true, Bool.and_self, Post_ret, Post_normal, PostS_ret, PostS_normal, retT_true, retT_false, flat_bool, flat_int, flat_str, List.take_length, decide_true, decide_false, Option.some.injEq, Value.bool.injEq, Value.int.injEq, Bool.false_and, Bool.and_false, not_false_eq_true, not_true_eq_false, toIntK, List.length_set, Nat.reduceMul, Bool.not_eq_true, Bool.not_eq_false, List.all_cons, List.all_nil, exps, fillL, buildK, strK, nilcK, fnK, callVT, List.size_toArray, List.append_nil, List.singleton_append, boxOK, newOK, scal_nil, List.isEmpty_nil, List.isEmpty_cons, mkVK, mkOK, mkCells, zeros_0, zeros_1, zeros_2, zeros_3, zeros_4, List.map_cons, List.map_nil, h0', h3]
    refine brT.intro (fun q1 => ?_) (fun q1 => ?_) <;> simp only [go_nil, go_blk, go_skip, go_ret, go_exit, go_seq, go_block, go_reg, go_r0, go_r, go_d0, go_d, go_e0, go_e, box2, Option.isSome_some, Nat.le_refl, go_cond, go_o, go_g, aft_some, cnd_bool, grd_bool, grd_tup, brT_true, brT_false, brT_not, thr_exit, thr_c, thr_nil, stp, stepK, movK, mv1, ex, exv, exvs, upd_some, upd_none, ini, St.val, binK, binV, ofV, pickK, unK, unV, beqK, beq_true, beq_false, if_true, if_false, List.getElem?_cons_zero, List.getElem?_cons_succ, ↓reduceIte, Nat.reduceEqDiff, reduceCtorEq, loadK, adr, deref, Ad.fv, Ad.live, fadrK, List.length_cons, List.length_nil, List.drop_zero, List.drop_succ_cons, List.take_succ_cons, List.take_zero, Nat.reduceAdd, Nat.reduceLeDiff, Nat.zero_add, Nat.add_zero, aeqK, agEq, scEq, boxVK, newVK, exc, vc_agg, vc_int, vc_bool, vc_str, vc_ptr, vc_sl, vc_fn, boxOf, adInf, List.reverse_cons, List.reverse_nil, List.nil_append, List.cons_append, extK, Bool.and_true, Bool.true_and, Bool.not_true, Bool.not_false, resT, resVs, resV, true_and, and_true, storeK, spl_nil, spl_z, spl_1, spl_2, spl_3, spl_4, spl_5, spl_6, spl_7, spl_8, scal_int, scal_bool, scal_str, scal_nil, implies_true, Bool.and_self, Post_ret, Post_normal, PostS_ret, PostS_normal, retT_true, retT_false, flat_bool, flat_int, flat_str, List.take_length, decide_true, decide_false, Option.some.injEq, Value.bool.injEq, Value.int.injEq, Bool.false_and, Bool.and_false, not_false_eq_true, not_true_eq_false, toIntK, List.length_set, Nat.reduceMul, Bool.not_eq_true, Bool.not_eq_false, List.all_cons, List.all_nil, exps, fillL, buildK, strK, nilcK, fnK, callVT, List.size_toArray, List.append_nil, List.singleton_append, boxOK, newOK, scal_nil, List.isEmpty_nil, List.isEmpty_cons, mkVK, mkOK, mkCells, zeros_0, zeros_1, zeros_2, zeros_3, zeros_4, List.map_cons, List.map_nil, h0', h3]
    · have q2 : ¬ j < 128 := by have := of_decide_eq_true q1; omega
      have hll := congrArg List.length hl
      have hp := varL_pos j
      rw [List.length_append] at hll
      obtain ⟨v2, H2, e1, e2, e3, e4, e5, e6, e7⟩ := hs.oneN (m := m) (j % 128 + 128) ho hH.length_le hw (by omega)
      have t1 : Int.tmod (j : Int) 128 = ((j % 128 : Nat) : Int) := rfl
      have t2 : Int.tdiv (j : Int) 128 = ((j / 128 : Nat) : Int) := rfl
      have t3 : IntKind.u8.wrap (128 + ((j % 128 : Nat) : Int)) = ((j % 128 + 128 : Nat) : Int) := by rw [wrap8 _ (by omega) (by omega)]; omega
      simp only [go_nil, go_blk, go_skip, go_ret, go_exit, go_seq, go_block, go_reg, go_r0, go_r, go_d0, go_d, go_e0, go_e, box2, Option.isSome_some, Nat.le_refl, go_cond, go_o, go_g, aft_some, cnd_bool, grd_bool, grd_tup, brT_true, brT_false, brT_not, thr_exit, thr_c, thr_nil, stp, stepK, movK, mv1, ex, exv, exvs, upd_some, upd_none, ini, St.val, binK, binV, ofV, pickK, unK, unV, beqK, beq_true, beq_false, if_true, if_false, List.getElem?_cons_zero, List.getElem?_cons_succ, ↓reduceIte, Nat.reduceEqDiff, reduceCtorEq, loadK, adr, deref, Ad.fv, Ad.live, fadrK, List.length_cons, List.length_nil, List.drop_zero, List.drop_succ_cons, List.take_succ_cons, List.take_zero, Nat.reduceAdd, Nat.reduceLeDiff, Nat.zero_add, Nat.add_zero, aeqK, agEq, scEq, boxVK, newVK, exc, vc_agg, vc_int, vc_bool, vc_str, vc_ptr, vc_sl, vc_fn, boxOf, adInf, List.reverse_cons, List.reverse_nil, List.nil_append, List.cons_append, extK, Bool.and_true, Bool.true_and, Bool.not_true, Bool.not_false, resT, resVs, resV, true_and, and_true, storeK, spl_nil, spl_z, spl_1, spl_2, spl_3, spl_4, spl_5, spl_6, spl_7, spl_8, scal_int, scal_bool, scal_str, scal_nil, implies_true, Bool.and_self, Post_ret, Post_normal, PostS_ret, PostS_normal, retT_true, retT_false, flat_bool, flat_int, flat_str, List.take_length, decide_true, decide_false, Option.some.injEq, Value.bool.injEq, Value.int.injEq, Bool.false_and, Bool.and_false, not_false_eq_true, not_true_eq_false, toIntK, List.length_set, Nat.reduceMul, Bool.not_eq_true, Bool.not_eq_false, List.all_cons, List.all_nil, exps, fillL, buildK, strK, nilcK, fnK, callVT, List.size_toArray, List.append_nil, List.singleton_append, boxOK, newOK, scal_nil, List.isEmpty_nil, List.isEmpty_cons, mkVK, mkOK, mkCells, zeros_0, zeros_1, zeros_2, zeros_3, zeros_4, List.map_cons, List.map_nil, h0', h3, ne128, t1, t2, wrap64 (128 + ((j % 128 : Nat) : Int)) (by omega) (by omega), t3]
      rw [e1]
      rotate_left
      · rfl
      · rfl
      · rfl
      simp only [go_nil, go_blk, go_skip, go_ret, go_exit, go_seq, go_block, go_reg, go_r0, go_r, go_d0, go_d, go_e0, go_e, box2, Option.isSome_some, Nat.le_refl, go_cond, go_o, go_g, aft_some, cnd_bool, grd_bool, grd_tup, brT_true, brT_false, brT_not, thr_exit, thr_c, thr_nil, stp, stepK, movK, mv1, ex, exv, exvs, upd_some, upd_none, ini, St.val, binK, binV, ofV, pickK, unK, unV, beqK, beq_true, beq_false, if_true, if_false, List.getElem?_cons_zero, List.getElem?_cons_succ, ↓reduceIte, Nat.reduceEqDiff, reduceCtorEq, loadK, adr, deref, Ad.fv, Ad.live, fadrK, List.length_cons, List.length_nil, List.drop_zero, List.drop_succ_cons, List.take_succ_cons, List.take_zero, Nat.reduceAdd, Nat.reduceLeDiff, Nat.zero_add, Nat.add_zero, aeqK, agEq, scEq, boxVK, newVK, exc, vc_agg, vc_int, vc_bool, vc_str, vc_ptr, vc_sl, vc_fn, boxOf, adInf, List.reverse_cons, List.reverse_nil, List.nil_append, List.cons_append, extK, Bool.and_true, Bool.true_and, Bool.not_true, Bool.not_false, resT, resVs, resV, true_and, and_true, storeK, spl_nil, spl_z, spl_1, spl_2, spl_3, spl_4, spl_5, spl_6, spl_7, spl_8, scal_int, scal_bool, scal_str, scal_nil, implies_true, Bool.and_self, Post_ret, Post_normal, PostS_ret, PostS_normal, retT_true, retT_false, flat_bool, flat_int, flat_str, List.take_length, decide_true, decide_false, Option.some.injEq, Value.bool.injEq, Value.int.injEq, Bool.false_and, Bool.and_false, not_false_eq_true, not_true_eq_false, toIntK, List.length_set, Nat.reduceMul, Bool.not_eq_true, Bool.not_eq_false, List.all_cons, List.all_nil, exps, fillL, buildK, strK, nilcK, fnK, callVT, List.size_toArray, List.append_nil, List.singleton_append, boxOK, newOK, scal_nil, List.isEmpty_nil, List.isEmpty_cons, mkVK, mkOK, mkCells, zeros_0, zeros_1, zeros_2, zeros_3, zeros_4, List.map_cons, List.map_nil, h0', h3, ne128, t1, t2, wrap64 (((j / 128 : Nat) : Int)) (by omega) (by omega)]
      refine ⟨j / 128, by omega, e7 H (Nat.le_refl _) hH, rfl, by omega, v2, _, rfl, e2, e3, ?_⟩
      rw [List.append_assoc, List.singleton_append, ← varL_ge q2]
      exact hl
    · have q2 : j < 128 := by have := of_decide_eq_false q1; omega
      rw [varL_lt q2] at hl
      exact ⟨hH, j, wv, l, rfl, q2, rfl, hs, ho, hl⟩
  · rintro s ⟨hH, j, wv, l, h0', hj, h3, hs, ho, hl⟩
    have hll := congrArg List.length hl
    rw [List.length_append] at hll
    obtain ⟨v2, H2, e1, e2, e3, e4, e5, e6, e7⟩ := hs.oneN (m := m) j ho hH.length_le hw (by simp at hll; omega)
    have hb := e2.b2s (fun x hx => by
      rw [hl] at hx
      obtain ⟨i, hi⟩ := List.getElem?_of_mem hx
      exact (varL_bits k i x hi).1)
    simp only [go_nil, go_blk, go_skip, go_ret, go_exit, go_seq, go_block, go_reg, go_r0, go_r, go_d0, go_d, go_e0, go_e, box2, Option.isSome_some, Nat.le_refl, go_cond, go_o, go_g, aft_some, cnd_bool, grd_bool, grd_tup, brT_true, brT_false, brT_not, thr_exit, thr_c, thr_nil, stp, stepK, movK, mv1, ex, exv, exvs, upd_some, upd_none, ini, St.val, binK, binV, ofV, pickK, unK, unV, beqK, beq_true, beq_false, if_true, if_false, List.getElem?_cons_zero, List.getElem?_cons_succ, ↓reduceIte, Nat.reduceEqDiff, reduceCtorEq, loadK, adr, deref, Ad.fv, Ad.live, fadrK, List.length_cons, List.length_nil, List.drop_zero, List.drop_succ_cons, List.take_succ_cons, List.take_zero, Nat.reduceAdd, Nat.reduceLeDiff, Nat.zero_add, Nat.add_zero, aeqK, agEq, scEq, boxVK, newVK, exc, vc_agg, vc_int, vc_bool, vc_str, vc_ptr, vc_sl, vc_fn, boxOf, adInf, List.reverse_cons, List.reverse_nil, List.nil_append, List.cons_append, extK, Bool.and_true, Bool.true_and, Bool.not_true, Bool.not_false, resT, resVs, resV, true_and, and_true, storeK, spl_nil, spl_z, spl_1, spl_2, spl_3, spl_4, spl_5, spl_6, spl_7, spl_8, scal_int, scal_bool, scal_str, scal_nil, implies_true, Bool.and_self, Post_ret, Post_normal, PostS_ret, PostS_normal, retT_true, retT_false, flat_bool, flat_int, flat_str, List.take_length, decide_true, decide_false, Option.some.injEq, Value.bool.injEq, Value.int.injEq, Bool.false_and, Bool.and_false, not_false_eq_true, not_true_eq_false, toIntK, List.length_set, Nat.reduceMul, Bool.not_eq_true, Bool.not_eq_false, List.all_cons, List.all_nil, exps, fillL, buildK, strK, nilcK, fnK, callVT, List.size_toArray, List.append_nil, List.singleton_append, boxOK, newOK, scal_nil, List.isEmpty_nil, List.isEmpty_cons, mkVK, mkOK, mkCells, zeros_0, zeros_1, zeros_2, zeros_3, zeros_4, List.map_cons, List.map_nil, h0', h3, wrap8 (j : Int) (by omega) (by omega)]
    rw [e1]
    rotate_left
    · rfl
    · rfl
    · rfl
    simp only [go_nil, go_blk, go_skip, go_ret, go_exit, go_seq, go_block, go_reg, go_r0, go_r, go_d0, go_d, go_e0, go_e, box2, Option.isSome_some, Nat.le_refl, go_cond, go_o, go_g, aft_some, cnd_bool, grd_bool, grd_tup, brT_true, brT_false, brT_not, thr_exit, thr_c, thr_nil, stp, stepK, movK, mv1, ex, exv, exvs, upd_some, upd_none, ini, St.val, binK, binV, ofV, pickK, unK, unV, beqK, beq_true, beq_false, if_true, if_false, List.getElem?_cons_zero, List.getElem?_cons_succ, ↓reduceIte, Nat.reduceEqDiff, reduceCtorEq, loadK, adr, deref, Ad.fv, Ad.live, fadrK, List.length_cons, List.length_nil, List.drop_zero, List.drop_succ_cons, List.take_succ_cons, List.take_zero, Nat.reduceAdd, Nat.reduceLeDiff, Nat.zero_add, Nat.add_zero, aeqK, agEq, scEq, boxVK, newVK, exc, vc_agg, vc_int, vc_bool, vc_str, vc_ptr, vc_sl, vc_fn, boxOf, adInf, List.reverse_cons, List.reverse_nil, List.nil_append, List.cons_append, extK, Bool.and_true, Bool.true_and, Bool.not_true, Bool.not_false, resT, resVs, resV, true_and, and_true, storeK, spl_nil, spl_z, spl_1, spl_2, spl_3, spl_4, spl_5, spl_6, spl_7, spl_8, scal_int, scal_bool, scal_str, scal_nil, implies_true, Bool.and_self, Post_ret, Post_normal, PostS_ret, PostS_normal, retT_true, retT_false, flat_bool, flat_int, flat_str, List.take_length, decide_true, decide_false, Option.some.injEq, Value.bool.injEq, Value.int.injEq, Bool.false_and, Bool.and_false, not_false_eq_true, not_true_eq_false, toIntK, List.length_set, Nat.reduceMul, Bool.not_eq_true, Bool.not_eq_false, List.all_cons, List.all_nil, exps, fillL, buildK, strK, nilcK, fnK, callVT, List.size_toArray, List.append_nil, List.singleton_append, boxOK, newOK, scal_nil, List.isEmpty_nil, List.isEmpty_cons, mkVK, mkOK, mkCells, zeros_0, zeros_1, zeros_2, zeros_3, zeros_4, List.map_cons, List.map_nil]
    rw [hb]
    rotate_left
    · rfl
    · rfl
    simp only [go_nil, go_blk, go_skip, go_ret, go_exit, go_seq, go_block, go_reg, go_r0, go_r, go_d0, go_d, go_e0, go_e, box2, Option.isSome_some, Nat.le_refl, go_cond, go_o, go_g, aft_some, cnd_bool, grd_bool, grd_tup, brT_true, brT_false, brT_not, thr_exit, thr_c, thr_nil, stp, stepK, movK, mv1, ex, exv, exvs, upd_some, upd_none, ini, St.val, binK, binV, ofV, pickK, unK, unV, beqK, beq_true, beq_false, if_true, if_false, List.getElem?_cons_zero, List.getElem?_cons_succ, ↓reduceIte, Nat.reduceEqDiff, reduceCtorEq, loadK, adr, deref, Ad.fv, Ad.live, fadrK, List.length_cons, List.length_nil, List.drop_zero, List.drop_succ_cons, List.take_succ_cons, List.take_zero, Nat.reduceAdd, Nat.reduceLeDiff, Nat.zero_add, Nat.add_zero, aeqK, agEq, scEq, boxVK, newVK, exc, vc_agg, vc_int, vc_bool, vc_str, vc_ptr, vc_sl, vc_fn, boxOf, adInf, List.reverse_cons, List.reverse_nil, List.nil_append, List.cons_append, extK, Bool.and_true, Bool.true_and, Bool.not_true, Bool.not_false, resT, resVs, resV, true_and, and_true, storeK, spl_nil, spl_z, spl_1, spl_2, spl_3, spl_4, spl_5, spl_6, spl_7, spl_8, scal_int, scal_bool, scal_str, scal_nil, implies_true, Bool.and_self, Post_ret, Post_normal, PostS_ret, PostS_normal, retT_true, retT_false, flat_bool, flat_int, flat_str, List.take_length, decide_true, decide_false, Option.some.injEq, Value.bool.injEq, Value.int.injEq, Bool.false_and, Bool.and_false, not_false_eq_true, not_true_eq_false, toIntK, List.length_set, Nat.reduceMul, Bool.not_eq_true, Bool.not_eq_false, List.all_cons, List.all_nil, exps, fillL, buildK, strK, nilcK, fnK, callVT, List.size_toArray, List.append_nil, List.singleton_append, boxOK, newOK, scal_nil, List.isEmpty_nil, List.isEmpty_cons, mkVK, mkOK, mkCells, zeros_0, zeros_1, zeros_2, zeros_3, zeros_4, List.map_cons, List.map_nil, hl]
    exact pre_take (e7 H (Nat.le_refl _) hH)
theorem f99 {H : Hp} {n : Int} : Scal EE 99 [.int .i64 n] H (.string (varB n)) := by
  refine scal_ok rfl rfl k99 (by simp [c99]) rfl fun m hw => ?_
  simp only [go_nil, go_blk, go_skip, go_ret, go_exit, go_seq, go_block, go_reg, go_r0, go_r, go_d0, go_d, go_e0, go_e, box2, Option.isSome_some, Nat.le_refl, go_cond, go_o, go_g, aft_some, cnd_bool, grd_bool, grd_tup, brT_true, brT_false, brT_not, thr_exit, thr_c, thr_nil, stp, stepK, movK, mv1, ex, exv, exvs, upd_some, upd_none, ini, St.val, binK, binV, ofV, pickK, unK, unV, beqK, beq_true, beq_false, if_true, if_false, List.getElem?_cons_zero, List.getElem?_cons_succ, ↓reduceIte, Nat.reduceEqDiff, reduceCtorEq, loadK, adr, deref, Ad.fv, Ad.live, fadrK, List.length_cons, List.length_nil, List.drop_zero, List.drop_succ_cons, List.take_succ_cons, List.take_zero, Nat.reduceAdd, Nat.reduceLeDiff, Nat.zero_add, Nat.add_zero, aeqK, agEq, scEq, boxVK, newVK, exc, vc_agg, vc_int, vc_bool, vc_str, vc_ptr, vc_sl, vc_fn, boxOf, adInf, List.reverse_cons, List.reverse_nil, List.nil_append, List.cons_append, extK, Bool.and_true, Bool.true_and, Bool.not_true, Bool.not_false, resT, resVs, resV, true_and, and_true, storeK, spl_nil, spl_z, spl_1, spl_2, spl_3, spl_4, spl_5, spl_6, spl_7, spl_8, scal_int, scal_bool, scal_str, scal_nil, implies_true, Bool.and_self, Post_ret, Post_normal, PostS_ret, PostS_normal, retT_true, retT_false, flat_bool, flat_int, flat_str, List.take_length, decide_true, decide_false, Option.some.injEq, Value.bool.injEq, Value.int.injEq, Bool.false_and, Bool.and_false, not_false_eq_true, not_true_eq_false, toIntK, List.length_set, Nat.reduceMul, Bool.not_eq_true, Bool.not_eq_false, List.all_cons, List.all_nil, exps, fillL, buildK, strK, nilcK, fnK, callVT, List.size_toArray, List.append_nil, List.singleton_append, boxOK, newOK, scal_nil, List.isEmpty_nil, List.isEmpty_cons, mkVK, mkOK, mkCells, zeros_0, zeros_1, zeros_2, zeros_3, zeros_4, List.map_cons, List.map_nil, c99, c112', hw, fillL]
  refine brT.intro (fun h => ?_) (fun h => ?_) <;> simp only [go_nil, go_blk, go_skip, go_ret, go_exit, go_seq, go_block, go_reg, go_r0, go_r, go_d0, go_d, go_e0, go_e, box2, Option.isSome_some, Nat.le_refl, go_cond, go_o, go_g, aft_some, cnd_bool, grd_bool, grd_tup, brT_true, brT_false, brT_not, thr_exit, thr_c, thr_nil, stp, stepK, movK, mv1, ex, exv, exvs, upd_some, upd_none, ini, St.val, binK, binV, ofV, pickK, unK, unV, beqK, beq_true, beq_false, if_true, if_false, List.getElem?_cons_zero, List.getElem?_cons_succ, ↓reduceIte, Nat.reduceEqDiff, reduceCtorEq, loadK, adr, deref, Ad.fv, Ad.live, fadrK, List.length_cons, List.length_nil, List.drop_zero, List.drop_succ_cons, List.take_succ_cons, List.take_zero, Nat.reduceAdd, Nat.reduceLeDiff, Nat.zero_add, Nat.add_zero, aeqK, agEq, scEq, boxVK, newVK, exc, vc_agg, vc_int, vc_bool, vc_str, vc_ptr, vc_sl, vc_fn, boxOf, adInf, List.reverse_cons, List.reverse_nil, List.nil_append, List.cons_append, extK, Bool.and_true, Bool.true_and, Bool.not_true, Bool.not_false, resT, resVs, resV, true_and, and_true, storeK, spl_nil, spl_z, spl_1, spl_2, spl_3, spl_4, spl_5, spl_6, spl_7, spl_8, scal_int, scal_bool, scal_str, scal_nil, implies_true, Bool.and_self, Post_ret, Post_normal, PostS_ret, PostS_normal, retT_true, retT_false, flat_bool, flat_int, flat_str, List.take_length, decide_true, decide_false, Option.some.injEq, Value.bool.injEq, Value.int.injEq, Bool.false_and, Bool.and_false, not_false_eq_true, not_true_eq_false, toIntK, List.length_set, Nat.reduceMul, Bool.not_eq_true, Bool.not_eq_false, List.all_cons, List.all_nil, exps, fillL, buildK, strK, nilcK, fnK, callVT, List.size_toArray, List.append_nil, List.singleton_append, boxOK, newOK, scal_nil, List.isEmpty_nil, List.isEmpty_cons, mkVK, mkOK, mkCells, zeros_0, zeros_1, zeros_2, zeros_3, zeros_4, List.map_cons, List.map_nil, fillL]
  rotate_left
  · rw [varB_out h]
  obtain ⟨h0, h1⟩ := varB_in h
  obtain ⟨k, rfl⟩ : ∃ k : Nat, n = k := ⟨n.toNat, by omega⟩
  have hV : varB (k : Int) = strOf (varL k) := by unfold varB; rw [if_pos ⟨h0, h1⟩]; rfl
  have h7 : (128 : Nat) ^ (6 + 1) = 562949953421312 := by decide
  have hlen := varL_len 6 k (by omega)
  rw [hV]
  refine go_loop (fun j s => H <+: s.H ∧ s.ρ 0 = .val (.int .i64 j) ∧ j ≤ k ∧ ∃ wv l, s.ρ 3 = .val wv ∧ SlN s.H wv l ∧ OwnS H.length wv ∧ l ++ varL j = varL k)
    (fun s => H <+: s.H ∧ ∃ (j : Nat) (wv : Value) (l : List Nat), s.ρ 0 = .val (.int .i64 j) ∧ j < 128 ∧ s.ρ 3 = .val wv ∧ SlN s.H wv l ∧ OwnS H.length wv ∧ l ++ [j] = varL k) k ?_ ?_ ?_
  · exact ⟨List.prefix_append _ _, by simp [upd, ini], Nat.le_refl _, _, [], by simp [upd], own_newN, .inr ⟨_, _, _, _, rfl, Nat.le_refl _⟩, rfl⟩
  · rintro j s ⟨hH, h0', hj, wv, l, h3, hs, ho, hl⟩
    simp only [go_nil, go_blk, go_skip, go_ret, go_exit, go_seq, go_block, go_reg, go_r0, go_r, go_d0, go_d, go_e0, go_e, box2, Option.isSome_some, Nat.le_refl, go_cond, go_o, go_g, aft_some, cnd_bool, grd_bool, grd_tup, brT_true, brT_false, brT_not, thr_exit, thr_c, thr_nil, stp, stepK, movK, mv1, ex, exv, exvs, upd_some, upd_none, ini, St.val, binK, binV, ofV, pickK, unK, unV, beqK, beq_true, beq_false, if_true, if_false, List.getElem?_cons_zero, List.getElem?_cons_succ, ↓reduceIte, Nat.reduceEqDiff, reduceCtorEq, loadK, adr, deref, Ad.fv, Ad.live, fadrK, List.length_cons, List.length_nil, List.drop_zero, List.drop_succ_cons, List.take_succ_cons, List.take_zero, Nat.reduceAdd, Nat.reduceLeDiff, Nat.zero_add, Nat.add_zero, aeqK, agEq, scEq, boxVK, newVK, exc, vc_agg, vc_int, vc_bool, vc_str, vc_ptr, vc_sl, vc_fn, boxOf, adInf, List.reverse_cons, List.reverse_nil, List.nil_append, List.cons_append, extK, Bool.and_true, Bool.true_and, Bool.not_true, Bool.not_false, resT, resVs, resV, true_and, and_true, storeK, spl_nil, spl_z, spl_1, spl_2, spl_3, spl_4, spl_5, spl_6, spl_7, spl_8, scal_int, scal_bool, scal_str, scal_nil, implies_true, Bool.and_self, Post_ret, Post_normal, PostS_ret, PostS_normal, retT_true, retT_false, flat_bool, flat_int, flat_str, List.take_length, decide_true, decide_false, Option.some.injEq, Value.bool.injEq, Value.int.injEq, Bool.false_and, Bool.and_false, not_false_eq_true, not_true_eq_false, toIntK, List.length_set, Nat.reduceMul, Bool.not_eq_true, Bool.not_eq_false, List.all_cons, List.all_nil, exps, fillL, buildK, strK, nilcK, fnK, callVT, List.size_toArray, List.append_nil, List.singleton_append, boxOK, newOK, scal_nil, List.isEmpty_nil, List.isEmpty_cons, mkVK, mkOK, mkCells, zeros_0, zeros_1, zeros_2, zeros_3, zeros_4, List.map_cons, List.map_nil, h0', h3]
    refine brT.intro (fun q1 => ?_) (fun q1 => ?_) <;> simp only [go_nil, go_blk, go_skip, go_ret, go_exit, go_seq, go_block, go_reg, go_r0, go_r, go_d0, go_d, go_e0, go_e, box2, Option.isSome_some, Nat.le_refl, go_cond, go_o, go_g, aft_some, cnd_bool, grd_bool, grd_tup, brT_true, brT_false, brT_not, thr_exit, thr_c, thr_nil, stp, stepK, movK, mv1, ex, exv, exvs, upd_some, upd_none, ini, St.val, binK, binV, ofV, pickK, unK, unV, beqK, beq_true, beq_false, if_true, if_false, List.getElem?_cons_zero, List.getElem?_cons_succ, ↓reduceIte, Nat.reduceEqDiff, reduceCtorEq, loadK, adr, deref, Ad.fv, Ad.live, fadrK, List.length_cons, List.length_nil, List.drop_zero, List.drop_succ_cons, List.take_succ_cons, List.take_zero, Nat.reduceAdd, Nat.reduceLeDiff, Nat.zero_add, Nat.add_zero, aeqK, agEq, scEq, boxVK, newVK, exc, vc_agg, vc_int, vc_bool, vc_str, vc_ptr, vc_sl, vc_fn, boxOf, adInf, List.reverse_cons, List.reverse_nil, List.nil_append, List.cons_append, extK, Bool.and_true, Bool.true_and, Bool.not_true, Bool.not_false, resT, resVs, resV, true_and, and_true, storeK, spl_nil, spl_z, spl_1, spl_2, spl_3, spl_4, spl_5, spl_6, spl_7, spl_8, scal_int, scal_bool, scal_str, scal_nil, implies_true, Bool.and_self, Post_ret, Post_normal, PostS_ret, PostS_normal, retT_true, retT_false, flat_bool, flat_int, flat_str, List.take_length, decide_true, decide_false, Option.some.injEq, Value.bool.injEq, Value.int.injEq, Bool.false_and, Bool.and_false, not_false_eq_true, not_true_eq_false, toIntK, List.length_set, Nat.reduceMul, Bool.not_eq_true, Bool.not_eq_false, List.all_cons, List.all_nil, exps, fillL, buildK, strK, nilcK, fnK, callVT, List.size_toArray, List.append_nil, List.singleton_append, boxOK, newOK, scal_nil, List.isEmpty_nil, List.isEmpty_cons, mkVK, mkOK, mkCells, zeros_0, zeros_1, zeros_2, zeros_3, zeros_4, List.map_cons, List.map_nil, h0', h3]
    · have q2 : ¬ j < 128 := by have := of_decide_eq_true q1; omega
      have hll := congrArg List.length hl
      have hp := varL_pos j
      rw [List.length_append] at hll
      obtain ⟨v2, H2, e1, e2, e3, e4, e5, e6, e7⟩ := hs.oneN (m := m) (j % 128 + 128) ho hH.length_le hw (by omega)
      have t1 := and7 (k := j) (by omega)
      have t2 : Int.fdiv (j : Int) (2 ^ (min (Int.toNat 7) IntKind.i64.bits)) = ((j / 128 : Nat) : Int) := by rw [show (2 : Int) ^ (min (Int.toNat 7) IntKind.i64.bits) = 128 by decide, Int.fdiv_eq_ediv_of_nonneg _ (by decide)]; omega
      have t3 := or128 (k := j % 128) (by omega)
      have t4 : IntKind.u8.wrap (((j % 128 + 128 : Nat) : Int)) = ((j % 128 + 128 : Nat) : Int) := wrap8 _ (by omega) (by omega)
      simp only [go_nil, go_blk, go_skip, go_ret, go_exit, go_seq, go_block, go_reg, go_r0, go_r, go_d0, go_d, go_e0, go_e, box2, Option.isSome_some, Nat.le_refl, go_cond, go_o, go_g, aft_some, cnd_bool, grd_bool, grd_tup, brT_true, brT_false, brT_not, thr_exit, thr_c, thr_nil, stp, stepK, movK, mv1, ex, exv, exvs, upd_some, upd_none, ini, St.val, binK, binV, ofV, pickK, unK, unV, beqK, beq_true, beq_false, if_true, if_false, List.getElem?_cons_zero, List.getElem?_cons_succ, ↓reduceIte, Nat.reduceEqDiff, reduceCtorEq, loadK, adr, deref, Ad.fv, Ad.live, fadrK, List.length_cons, List.length_nil, List.drop_zero, List.drop_succ_cons, List.take_succ_cons, List.take_zero, Nat.reduceAdd, Nat.reduceLeDiff, Nat.zero_add, Nat.add_zero, aeqK, agEq, scEq, boxVK, newVK, exc, vc_agg, vc_int, vc_bool, vc_str, vc_ptr, vc_sl, vc_fn, boxOf, adInf, List.reverse_cons, List.reverse_nil, List.nil_append, List.cons_append, extK, Bool.and_true, Bool.true_and, Bool.not_true, Bool.not_false, resT, resVs, resV, true_and, and_true, storeK, spl_nil, spl_z, spl_1, spl_2, spl_3, spl_4, spl_5, spl_6, spl_7, spl_8, scal_int, scal_bool, scal_str, scal_nil, implies_true, Bool.and_self, Post_ret, Post_normal, PostS_ret, PostS_normal, retT_true, retT_false, flat_bool, flat_int, flat_str, List.take_length, decide_true, decide_false, Option.some.injEq, Value.bool.injEq, Value.int.injEq, Bool.false_and, Bool.and_false, not_false_eq_true, not_true_eq_false, toIntK, List.length_set, Nat.reduceMul, Bool.not_eq_true, Bool.not_eq_false, List.all_cons, List.all_nil, exps, fillL, buildK, strK, nilcK, fnK, callVT, List.size_toArray, List.append_nil, List.singleton_append, boxOK, newOK, scal_nil, List.isEmpty_nil, List.isEmpty_cons, mkVK, mkOK, mkCells, zeros_0, zeros_1, zeros_2, zeros_3, zeros_4, List.map_cons, List.map_nil, h0', h3, t1, t3, t4]
      rw [e1]
      rotate_left
      · rfl
      · rfl
      · rfl
      simp only [go_nil, go_blk, go_skip, go_ret, go_exit, go_seq, go_block, go_reg, go_r0, go_r, go_d0, go_d, go_e0, go_e, box2, Option.isSome_some, Nat.le_refl, go_cond, go_o, go_g, aft_some, cnd_bool, grd_bool, grd_tup, brT_true, brT_false, brT_not, thr_exit, thr_c, thr_nil, stp, stepK, movK, mv1, ex, exv, exvs, upd_some, upd_none, ini, St.val, binK, binV, ofV, pickK, unK, unV, beqK, beq_true, beq_false, if_true, if_false, List.getElem?_cons_zero, List.getElem?_cons_succ, ↓reduceIte, Nat.reduceEqDiff, reduceCtorEq, loadK, adr, deref, Ad.fv, Ad.live, fadrK, List.length_cons, List.length_nil, List.drop_zero, List.drop_succ_cons, List.take_succ_cons, List.take_zero, Nat.reduceAdd, Nat.reduceLeDiff, Nat.zero_add, Nat.add_zero, aeqK, agEq, scEq, boxVK, newVK, exc, vc_agg, vc_int, vc_bool, vc_str, vc_ptr, vc_sl, vc_fn, boxOf, adInf, List.reverse_cons, List.reverse_nil, List.nil_append, List.cons_append, extK, Bool.and_true, Bool.true_and, Bool.not_true, Bool.not_false, resT, resVs, resV, true_and, and_true, storeK, spl_nil, spl_z, spl_1, spl_2, spl_3, spl_4, spl_5, spl_6, spl_7, spl_8, scal_int, scal_bool, scal_str, scal_nil, implies_true, Bool.and_self, Post_ret, Post_normal, PostS_ret, PostS_normal, retT_true, retT_false, flat_bool, flat_int, flat_str, List.take_length, decide_true, decide_false, Option.some.injEq, Value.bool.injEq, Value.int.injEq, Bool.false_and, Bool.and_false, not_false_eq_true, not_true_eq_false, toIntK, List.length_set, Nat.reduceMul, Bool.not_eq_true, Bool.not_eq_false, List.all_cons, List.all_nil, exps, fillL, buildK, strK, nilcK, fnK, callVT, List.size_toArray, List.append_nil, List.singleton_append, boxOK, newOK, scal_nil, List.isEmpty_nil, List.isEmpty_cons, mkVK, mkOK, mkCells, zeros_0, zeros_1, zeros_2, zeros_3, zeros_4, List.map_cons, List.map_nil, h0', h3, t2, Int.reduceLT]
      refine ⟨j / 128, by omega, e7 H (Nat.le_refl _) hH, rfl, by omega, v2, _, rfl, e2, e3, ?_⟩
      rw [List.append_assoc, List.singleton_append, ← varL_ge q2]
      exact hl
    · have q2 : j < 128 := by have := of_decide_eq_false q1; omega
      rw [varL_lt q2] at hl
      exact ⟨hH, j, wv, l, rfl, q2, rfl, hs, ho, hl⟩
  · rintro s ⟨hH, j, wv, l, h0', hj, h3, hs, ho, hl⟩
    have hll := congrArg List.length hl
    rw [List.length_append] at hll
    obtain ⟨v2, H2, e1, e2, e3, e4, e5, e6, e7⟩ := hs.oneN (m := m) j ho hH.length_le hw (by simp at hll; omega)
    have hb := e2.b2s (fun x hx => by
      rw [hl] at hx
      obtain ⟨i, hi⟩ := List.getElem?_of_mem hx
      exact (varL_bits k i x hi).1)
    simp only [go_nil, go_blk, go_skip, go_ret, go_exit, go_seq, go_block, go_reg, go_r0, go_r, go_d0, go_d, go_e0, go_e, box2, Option.isSome_some, Nat.le_refl, go_cond, go_o, go_g, aft_some, cnd_bool, grd_bool, grd_tup, brT_true, brT_false, brT_not, thr_exit, thr_c, thr_nil, stp, stepK, movK, mv1, ex, exv, exvs, upd_some, upd_none, ini, St.val, binK, binV, ofV, pickK, unK, unV, beqK, beq_true, beq_false, if_true, if_false, List.getElem?_cons_zero, List.getElem?_cons_succ, ↓reduceIte, Nat.reduceEqDiff, reduceCtorEq, loadK, adr, deref, Ad.fv, Ad.live, fadrK, List.length_cons, List.length_nil, List.drop_zero, List.drop_succ_cons, List.take_succ_cons, List.take_zero, Nat.reduceAdd, Nat.reduceLeDiff, Nat.zero_add, Nat.add_zero, aeqK, agEq, scEq, boxVK, newVK, exc, vc_agg, vc_int, vc_bool, vc_str, vc_ptr, vc_sl, vc_fn, boxOf, adInf, List.reverse_cons, List.reverse_nil, List.nil_append, List.cons_append, extK, Bool.and_true, Bool.true_and, Bool.not_true, Bool.not_false, resT, resVs, resV, true_and, and_true, storeK, spl_nil, spl_z, spl_1, spl_2, spl_3, spl_4, spl_5, spl_6, spl_7, spl_8, scal_int, scal_bool, scal_str, scal_nil, implies_true, Bool.and_self, Post_ret, Post_normal, PostS_ret, PostS_normal, retT_true, retT_false, flat_bool, flat_int, flat_str, List.take_length, decide_true, decide_false, Option.some.injEq, Value.bool.injEq, Value.int.injEq, Bool.false_and, Bool.and_false, not_false_eq_true, not_true_eq_false, toIntK, List.length_set, Nat.reduceMul, Bool.not_eq_true, Bool.not_eq_false, List.all_cons, List.all_nil, exps, fillL, buildK, strK, nilcK, fnK, callVT, List.size_toArray, List.append_nil, List.singleton_append, boxOK, newOK, scal_nil, List.isEmpty_nil, List.isEmpty_cons, mkVK, mkOK, mkCells, zeros_0, zeros_1, zeros_2, zeros_3, zeros_4, List.map_cons, List.map_nil, h0', h3, wrap8 (j : Int) (by omega) (by omega)]
    rw [e1]
    rotate_left
    · rfl
    · rfl
    · rfl
    simp only [go_nil, go_blk, go_skip, go_ret, go_exit, go_seq, go_block, go_reg, go_r0, go_r, go_d0, go_d, go_e0, go_e, box2, Option.isSome_some, Nat.le_refl, go_cond, go_o, go_g, aft_some, cnd_bool, grd_bool, grd_tup, brT_true, brT_false, brT_not, thr_exit, thr_c, thr_nil, stp, stepK, movK, mv1, ex, exv, exvs, upd_some, upd_none, ini, St.val, binK, binV, ofV, pickK, unK, unV, beqK, beq_true, beq_false, if_true, if_false, List.getElem?_cons_zero, List.getElem?_cons_succ, ↓reduceIte, Nat.reduceEqDiff, reduceCtorEq, loadK, adr, deref, Ad.fv, Ad.live, fadrK, List.length_cons, List.length_nil, List.drop_zero, List.drop_succ_cons, List.take_succ_cons, List.take_zero, Nat.reduceAdd, Nat.reduceLeDiff, Nat.zero_add, Nat.add_zero, aeqK, agEq, scEq, boxVK, newVK, exc, vc_agg, vc_int, vc_bool, vc_str, vc_ptr, vc_sl, vc_fn, boxOf, adInf, List.reverse_cons, List.reverse_nil, List.nil_append, List.cons_append, extK, Bool.and_true, Bool.true_and, Bool.not_true, Bool.not_false, resT, resVs, resV, true_and, and_true, storeK, spl_nil, spl_z, spl_1, spl_2, spl_3, spl_4, spl_5, spl_6, spl_7, spl_8, scal_int, scal_bool, scal_str, scal_nil, implies_true, Bool.and_self, Post_ret, Post_normal, PostS_ret, PostS_normal, retT_true, retT_false, flat_bool, flat_int, flat_str, List.take_length, decide_true, decide_false, Option.some.injEq, Value.bool.injEq, Value.int.injEq, Bool.false_and, Bool.and_false, not_false_eq_true, not_true_eq_false, toIntK, List.length_set, Nat.reduceMul, Bool.not_eq_true, Bool.not_eq_false, List.all_cons, List.all_nil, exps, fillL, buildK, strK, nilcK, fnK, callVT, List.size_toArray, List.append_nil, List.singleton_append, boxOK, newOK, scal_nil, List.isEmpty_nil, List.isEmpty_cons, mkVK, mkOK, mkCells, zeros_0, zeros_1, zeros_2, zeros_3, zeros_4, List.map_cons, List.map_nil]
    rw [hb]
    rotate_left
    · rfl
    · rfl
    simp only [go_nil, go_blk, go_skip, go_ret, go_exit, go_seq, go_block, go_reg, go_r0, go_r, go_d0, go_d, go_e0, go_e, box2, Option.isSome_some, Nat.le_refl, go_cond, go_o, go_g, aft_some, cnd_bool, grd_bool, grd_tup, brT_true, brT_false, brT_not, thr_exit, thr_c, thr_nil, stp, stepK, movK, mv1, ex, exv, exvs, upd_some, upd_none, ini, St.val, binK, binV, ofV, pickK, unK, unV, beqK, beq_true, beq_false, if_true, if_false, List.getElem?_cons_zero, List.getElem?_cons_succ, ↓reduceIte, Nat.reduceEqDiff, reduceCtorEq, loadK, adr, deref, Ad.fv, Ad.live, fadrK, List.length_cons, List.length_nil, List.drop_zero, List.drop_succ_cons, List.take_succ_cons, List.take_zero, Nat.reduceAdd, Nat.reduceLeDiff, Nat.zero_add, Nat.add_zero, aeqK, agEq, scEq, boxVK, newVK, exc, vc_agg, vc_int, vc_bool, vc_str, vc_ptr, vc_sl, vc_fn, boxOf, adInf, List.reverse_cons, List.reverse_nil, List.nil_append, List.cons_append, extK, Bool.and_true, Bool.true_and, Bool.not_true, Bool.not_false, resT, resVs, resV, true_and, and_true, storeK, spl_nil, spl_z, spl_1, spl_2, spl_3, spl_4, spl_5, spl_6, spl_7, spl_8, scal_int, scal_bool, scal_str, scal_nil, implies_true, Bool.and_self, Post_ret, Post_normal, PostS_ret, PostS_normal, retT_true, retT_false, flat_bool, flat_int, flat_str, List.take_length, decide_true, decide_false, Option.some.injEq, Value.bool.injEq, Value.int.injEq, Bool.false_and, Bool.and_false, not_false_eq_true, not_true_eq_false, toIntK, List.length_set, Nat.reduceMul, Bool.not_eq_true, Bool.not_eq_false, List.all_cons, List.all_nil, exps, fillL, buildK, strK, nilcK, fnK, callVT, List.size_toArray, List.append_nil, List.singleton_append, boxOK, newOK, scal_nil, List.isEmpty_nil, List.isEmpty_cons, mkVK, mkOK, mkCells, zeros_0, zeros_1, zeros_2, zeros_3, zeros_4, List.map_cons, List.map_nil, hl]
    exact pre_take (e7 H (Nat.le_refl _) hH)
end Go.Proofs.Ytpdkgbamakileaa.Ev

/- Numbers read from bytes: the reference's and the program's. -/
namespace Go.Proofs.Ytpdkgbamakileaa.Ev
set_option linter.all false
open Go
set_option maxRecDepth 4000

theorem idx_at {s : St} {x y : X} {b : ByteArray} {i : Nat} {c : UInt8} (hc : b[i]? = some c) (hx : exv s.ρ x = some (.string b)) (hy : exv s.ρ y = some (.int .i64 i)) : idxK s x y = some (.val (.int .u8 c.toNat), s) := by
  unfold idxK
  rw [hx, hy]
  simp only [Int.toNat_natCast, hc]
  rw [if_pos (by omega)]
  rfl
theorem byte_at {b : ByteArray} {i : Nat} (h : i < b.size) : ∃ c, b[i]? = some c := ⟨_, getElem?_pos b i h⟩
theorem slc_to {s : St} {x y : X} {b : ByteArray} {k : Nat} (hk : k ≤ b.size) (hx : exv s.ρ x = some (.string b)) (hy : exv s.ρ y = some (.int .i64 k)) : slcSK s x none (some y) = some (.val (.string (b.extract 0 k)), s) := by
  unfold slcSK
  rw [hx]
  simp only [bnd, hy]
  rw [if_pos ⟨by omega, by omega, by omega⟩]
  rfl
theorem slc_rest {s : St} {x y : X} {b : ByteArray} {k : Nat} (hk : k ≤ b.size) (hx : exv s.ρ x = some (.string b)) (hy : exv s.ρ y = some (.int .i64 k)) : slcSK s x (some y) none = some (.val (.string (rest b k)), s) := by
  unfold slcSK
  rw [hx]
  simp only [bnd, hy]
  rw [if_pos ⟨by omega, by omega, by omega⟩]
  rfl

theorem valB_succ {s : ByteArray} {k : Nat} {c : UInt8} (hc : s[k]? = some c) : valB s (k + 1) = valB s k + c.toNat % 128 * 128 ^ k := by
  rw [valB, hc]
theorem pow7 {k : Nat} (h : k ≤ 7) : (128 : Nat) ^ k ≤ 562949953421312 := by
  have : (128 : Nat) ^ k ≤ 128 ^ 7 := Nat.pow_le_pow_right (by decide) h
  have h7 : (128 : Nat) ^ 7 = 562949953421312 := by decide
  omega
theorem valB_max (s : ByteArray) {k : Nat} (h : k ≤ 7) : valB s k < 562949953421312 := Nat.lt_of_lt_of_le (valB_lt s k) (pow7 h)
theorem le_of_mul {n p q : Nat} (h : n * p ≤ q) (hp : 0 < p) : n ≤ q := Nat.le_trans (Nat.le_mul_of_pos_right n hp) h

theorem f127 {H : Hp} {s : ByteArray} (hs : s.size ≤ 4611686018427387904) : Scal EE 127 [.string s] H (.tuple #[.int .i64 ((rdV s).1 : Nat), .int .i64 ((rdV s).2 : Nat)]) := by
  refine scal_ok rfl rfl k127 (by simp [c127]) rfl fun m hw => ?_
  simp only [go_nil, go_blk, go_skip, go_ret, go_exit, go_seq, go_block, go_reg, go_r0, go_r, go_d0, go_d, go_e0, go_e, box2, Option.isSome_some, Nat.le_refl, go_cond, go_o, go_g, aft_some, cnd_bool, grd_bool, grd_tup, brT_true, brT_false, brT_not, thr_exit, thr_c, thr_nil, stp, stepK, movK, mv1, ex, exv, exvs, upd_some, upd_none, ini, St.val, binK, binV, ofV, pickK, unK, unV, beqK, beq_true, beq_false, if_true, if_false, List.getElem?_cons_zero, List.getElem?_cons_succ, ↓reduceIte, Nat.reduceEqDiff, reduceCtorEq, loadK, adr, deref, Ad.fv, Ad.live, fadrK, List.length_cons, List.length_nil, List.drop_zero, List.drop_succ_cons, List.take_succ_cons, List.take_zero, Nat.reduceAdd, Nat.reduceLeDiff, Nat.zero_add, Nat.add_zero, aeqK, agEq, scEq, boxVK, newVK, exc, vc_agg, vc_int, vc_bool, vc_str, vc_ptr, vc_sl, vc_fn, boxOf, adInf, List.reverse_cons, List.reverse_nil, List.nil_append, List.cons_append, extK, Bool.and_true, Bool.true_and, Bool.not_true, Bool.not_false, resT, resVs, resV, true_and, and_true, storeK, spl_nil, spl_z, spl_1, spl_2, spl_3, spl_4, spl_5, spl_6, spl_7, spl_8, scal_int, scal_bool, scal_str, scal_nil, implies_true, Bool.and_self, Post_ret, Post_normal, PostS_ret, PostS_normal, retT_true, retT_false, flat_bool, flat_int, flat_str, List.take_length, decide_true, decide_false, Option.some.injEq, Value.bool.injEq, Value.int.injEq, Bool.false_and, Bool.and_false, not_false_eq_true, not_true_eq_false, toIntK, List.length_set, Nat.reduceMul, Bool.not_eq_true, Bool.not_eq_false, List.all_cons, List.all_nil, exps, fillL, buildK, strK, nilcK, fnK, callVT, List.size_toArray, List.append_nil, List.singleton_append, boxOK, newOK, scal_nil, List.isEmpty_nil, List.isEmpty_cons, mkVK, mkOK, mkCells, zeros_0, zeros_1, zeros_2, zeros_3, zeros_4, List.map_cons, List.map_nil, c127]
  refine go_for 7 (fun i t => H <+: t.H ∧ t.ρ 0 = .val (.string s) ∧ t.ρ 4 = .val (.int .i64 ((i + 1 : Nat) : Int)) ∧ ∀ k, k ≤ i → 1 ≤ k → ¬ isV s k)
    (fun t => H <+: t.H ∧ ∀ n k, ¬ readV s n k) ?_ ?_ ?_
  · exact ⟨List.prefix_refl _, by simp [upd, ini], by simp [upd], fun k h1 h2 => by omega⟩
  · rintro i t hi ⟨hH, h0, h4, hn⟩
    simp only [go_nil, go_blk, go_skip, go_ret, go_exit, go_seq, go_block, go_reg, go_r0, go_r, go_d0, go_d, go_e0, go_e, box2, Option.isSome_some, Nat.le_refl, go_cond, go_o, go_g, aft_some, cnd_bool, grd_bool, grd_tup, brT_true, brT_false, brT_not, thr_exit, thr_c, thr_nil, stp, stepK, movK, mv1, ex, exv, exvs, upd_some, upd_none, ini, St.val, binK, binV, ofV, pickK, unK, unV, beqK, beq_true, beq_false, if_true, if_false, List.getElem?_cons_zero, List.getElem?_cons_succ, ↓reduceIte, Nat.reduceEqDiff, reduceCtorEq, loadK, adr, deref, Ad.fv, Ad.live, fadrK, List.length_cons, List.length_nil, List.drop_zero, List.drop_succ_cons, List.take_succ_cons, List.take_zero, Nat.reduceAdd, Nat.reduceLeDiff, Nat.zero_add, Nat.add_zero, aeqK, agEq, scEq, boxVK, newVK, exc, vc_agg, vc_int, vc_bool, vc_str, vc_ptr, vc_sl, vc_fn, boxOf, adInf, List.reverse_cons, List.reverse_nil, List.nil_append, List.cons_append, extK, Bool.and_true, Bool.true_and, Bool.not_true, Bool.not_false, resT, resVs, resV, true_and, and_true, storeK, spl_nil, spl_z, spl_1, spl_2, spl_3, spl_4, spl_5, spl_6, spl_7, spl_8, scal_int, scal_bool, scal_str, scal_nil, implies_true, Bool.and_self, Post_ret, Post_normal, PostS_ret, PostS_normal, retT_true, retT_false, flat_bool, flat_int, flat_str, List.take_length, decide_true, decide_false, Option.some.injEq, Value.bool.injEq, Value.int.injEq, Bool.false_and, Bool.and_false, not_false_eq_true, not_true_eq_false, toIntK, List.length_set, Nat.reduceMul, Bool.not_eq_true, Bool.not_eq_false, List.all_cons, List.all_nil, exps, fillL, buildK, strK, nilcK, fnK, callVT, List.size_toArray, List.append_nil, List.singleton_append, boxOK, newOK, scal_nil, List.isEmpty_nil, List.isEmpty_cons, mkVK, mkOK, mkCells, zeros_0, zeros_1, zeros_2, zeros_3, zeros_4, List.map_cons, List.map_nil, h0, h4, lenTK]
    refine brT.intro (fun c1 => ?_) (fun c1 => ?_) <;> simp only [go_nil, go_blk, go_skip, go_ret, go_exit, go_seq, go_block, go_reg, go_r0, go_r, go_d0, go_d, go_e0, go_e, box2, Option.isSome_some, Nat.le_refl, go_cond, go_o, go_g, aft_some, cnd_bool, grd_bool, grd_tup, brT_true, brT_false, brT_not, thr_exit, thr_c, thr_nil, stp, stepK, movK, mv1, ex, exv, exvs, upd_some, upd_none, ini, St.val, binK, binV, ofV, pickK, unK, unV, beqK, beq_true, beq_false, if_true, if_false, List.getElem?_cons_zero, List.getElem?_cons_succ, ↓reduceIte, Nat.reduceEqDiff, reduceCtorEq, loadK, adr, deref, Ad.fv, Ad.live, fadrK, List.length_cons, List.length_nil, List.drop_zero, List.drop_succ_cons, List.take_succ_cons, List.take_zero, Nat.reduceAdd, Nat.reduceLeDiff, Nat.zero_add, Nat.add_zero, aeqK, agEq, scEq, boxVK, newVK, exc, vc_agg, vc_int, vc_bool, vc_str, vc_ptr, vc_sl, vc_fn, boxOf, adInf, List.reverse_cons, List.reverse_nil, List.nil_append, List.cons_append, extK, Bool.and_true, Bool.true_and, Bool.not_true, Bool.not_false, resT, resVs, resV, true_and, and_true, storeK, spl_nil, spl_z, spl_1, spl_2, spl_3, spl_4, spl_5, spl_6, spl_7, spl_8, scal_int, scal_bool, scal_str, scal_nil, implies_true, Bool.and_self, Post_ret, Post_normal, PostS_ret, PostS_normal, retT_true, retT_false, flat_bool, flat_int, flat_str, List.take_length, decide_true, decide_false, Option.some.injEq, Value.bool.injEq, Value.int.injEq, Bool.false_and, Bool.and_false, not_false_eq_true, not_true_eq_false, toIntK, List.length_set, Nat.reduceMul, Bool.not_eq_true, Bool.not_eq_false, List.all_cons, List.all_nil, exps, fillL, buildK, strK, nilcK, fnK, callVT, List.size_toArray, List.append_nil, List.singleton_append, boxOK, newOK, scal_nil, List.isEmpty_nil, List.isEmpty_cons, mkVK, mkOK, mkCells, zeros_0, zeros_1, zeros_2, zeros_3, zeros_4, List.map_cons, List.map_nil, c1, h0, h4, lenTK]
    rotate_left
    · have : ¬ i + 1 ≤ 7 := by have := of_decide_eq_false c1; omega
      exact ⟨hH, fun n k h => hn k (by have := h.2.1; omega) h.1 h.2.2.2.2⟩
    refine brT.intro (fun c2 => ?_) (fun c2 => ?_) <;> simp only [go_nil, go_blk, go_skip, go_ret, go_exit, go_seq, go_block, go_reg, go_r0, go_r, go_d0, go_d, go_e0, go_e, box2, Option.isSome_some, Nat.le_refl, go_cond, go_o, go_g, aft_some, cnd_bool, grd_bool, grd_tup, brT_true, brT_false, brT_not, thr_exit, thr_c, thr_nil, stp, stepK, movK, mv1, ex, exv, exvs, upd_some, upd_none, ini, St.val, binK, binV, ofV, pickK, unK, unV, beqK, beq_true, beq_false, if_true, if_false, List.getElem?_cons_zero, List.getElem?_cons_succ, ↓reduceIte, Nat.reduceEqDiff, reduceCtorEq, loadK, adr, deref, Ad.fv, Ad.live, fadrK, List.length_cons, List.length_nil, List.drop_zero, List.drop_succ_cons, List.take_succ_cons, List.take_zero, Nat.reduceAdd, Nat.reduceLeDiff, Nat.zero_add, Nat.add_zero, aeqK, agEq, scEq, boxVK, newVK, exc, vc_agg, vc_int, vc_bool, vc_str, vc_ptr, vc_sl, vc_fn, boxOf, adInf, List.reverse_cons, List.reverse_nil, List.nil_append, List.cons_append, extK, Bool.and_true, Bool.true_and, Bool.not_true, Bool.not_false, resT, resVs, resV, true_and, and_true, storeK, spl_nil, spl_z, spl_1, spl_2, spl_3, spl_4, spl_5, spl_6, spl_7, spl_8, scal_int, scal_bool, scal_str, scal_nil, implies_true, Bool.and_self, Post_ret, Post_normal, PostS_ret, PostS_normal, retT_true, retT_false, flat_bool, flat_int, flat_str, List.take_length, decide_true, decide_false, Option.some.injEq, Value.bool.injEq, Value.int.injEq, Bool.false_and, Bool.and_false, not_false_eq_true, not_true_eq_false, toIntK, List.length_set, Nat.reduceMul, Bool.not_eq_true, Bool.not_eq_false, List.all_cons, List.all_nil, exps, fillL, buildK, strK, nilcK, fnK, callVT, List.size_toArray, List.append_nil, List.singleton_append, boxOK, newOK, scal_nil, List.isEmpty_nil, List.isEmpty_cons, mkVK, mkOK, mkCells, zeros_0, zeros_1, zeros_2, zeros_3, zeros_4, List.map_cons, List.map_nil, c1, c2, h0, h4]
    rotate_left
    · have : ¬ i + 1 ≤ s.size := by have := of_decide_eq_false c2; omega
      exact ⟨hH, fun n k h => hn k (by have := h.2.2.1; omega) h.1 h.2.2.2.2⟩
    have hi7 : i < 7 := by have := of_decide_eq_true c1; omega
    have his : i + 1 ≤ s.size := by have := of_decide_eq_true c2; omega
    have hvm := valB_max s (k := i + 1) (by omega)
    simp only [go_nil, go_blk, go_skip, go_ret, go_exit, go_seq, go_block, go_reg, go_r0, go_r, go_d0, go_d, go_e0, go_e, box2, Option.isSome_some, Nat.le_refl, go_cond, go_o, go_g, aft_some, cnd_bool, grd_bool, grd_tup, brT_true, brT_false, brT_not, thr_exit, thr_c, thr_nil, stp, stepK, movK, mv1, ex, exv, exvs, upd_some, upd_none, ini, St.val, binK, binV, ofV, pickK, unK, unV, beqK, beq_true, beq_false, if_true, if_false, List.getElem?_cons_zero, List.getElem?_cons_succ, ↓reduceIte, Nat.reduceEqDiff, reduceCtorEq, loadK, adr, deref, Ad.fv, Ad.live, fadrK, List.length_cons, List.length_nil, List.drop_zero, List.drop_succ_cons, List.take_succ_cons, List.take_zero, Nat.reduceAdd, Nat.reduceLeDiff, Nat.zero_add, Nat.add_zero, aeqK, agEq, scEq, boxVK, newVK, exc, vc_agg, vc_int, vc_bool, vc_str, vc_ptr, vc_sl, vc_fn, boxOf, adInf, List.reverse_cons, List.reverse_nil, List.nil_append, List.cons_append, extK, Bool.and_true, Bool.true_and, Bool.not_true, Bool.not_false, resT, resVs, resV, true_and, and_true, storeK, spl_nil, spl_z, spl_1, spl_2, spl_3, spl_4, spl_5, spl_6, spl_7, spl_8, scal_int, scal_bool, scal_str, scal_nil, implies_true, Bool.and_self, Post_ret, Post_normal, PostS_ret, PostS_normal, retT_true, retT_false, flat_bool, flat_int, flat_str, List.take_length, decide_true, decide_false, Option.some.injEq, Value.bool.injEq, Value.int.injEq, Bool.false_and, Bool.and_false, not_false_eq_true, not_true_eq_false, toIntK, List.length_set, Nat.reduceMul, Bool.not_eq_true, Bool.not_eq_false, List.all_cons, List.all_nil, exps, fillL, buildK, strK, nilcK, fnK, callVT, List.size_toArray, List.append_nil, List.singleton_append, boxOK, newOK, scal_nil, List.isEmpty_nil, List.isEmpty_cons, mkVK, mkOK, mkCells, zeros_0, zeros_1, zeros_2, zeros_3, zeros_4, List.map_cons, List.map_nil, h0, h4, wrap64 (((i + 1 : Nat) : Int) - 1) (by omega) (by omega)]
    refine go_loop (fun j t' => t'.H = t.H ∧ t'.ρ 0 = .val (.string s) ∧ t'.ρ 4 = .val (.int .i64 ((i + 1 : Nat) : Int)) ∧ t'.ρ 6 = .val (.int .i64 ((j : Int) - 1)) ∧ j ≤ i + 1 ∧ ∃ n : Nat, t'.ρ 5 = .val (.int .i64 n) ∧ n * 128 ^ j + valB s j = valB s (i + 1))
      (fun t' => t'.H = t.H ∧ t'.ρ 0 = .val (.string s) ∧ t'.ρ 4 = .val (.int .i64 ((i + 1 : Nat) : Int)) ∧ t'.ρ 5 = .val (.int .i64 ((valB s (i + 1) : Nat) : Int))) (i + 1) ?_ ?_ ?_
    · exact ⟨rfl, by simp [upd, h0], by simp [upd, h4], by simp [upd], Nat.le_refl _, 0, by simp [upd], by simp⟩
    · rintro j t' ⟨jH, j0, j4, j6, hj, n, j5, hv⟩
      simp only [go_nil, go_blk, go_skip, go_ret, go_exit, go_seq, go_block, go_reg, go_r0, go_r, go_d0, go_d, go_e0, go_e, box2, Option.isSome_some, Nat.le_refl, go_cond, go_o, go_g, aft_some, cnd_bool, grd_bool, grd_tup, brT_true, brT_false, brT_not, thr_exit, thr_c, thr_nil, stp, stepK, movK, mv1, ex, exv, exvs, upd_some, upd_none, ini, St.val, binK, binV, ofV, pickK, unK, unV, beqK, beq_true, beq_false, if_true, if_false, List.getElem?_cons_zero, List.getElem?_cons_succ, ↓reduceIte, Nat.reduceEqDiff, reduceCtorEq, loadK, adr, deref, Ad.fv, Ad.live, fadrK, List.length_cons, List.length_nil, List.drop_zero, List.drop_succ_cons, List.take_succ_cons, List.take_zero, Nat.reduceAdd, Nat.reduceLeDiff, Nat.zero_add, Nat.add_zero, aeqK, agEq, scEq, boxVK, newVK, exc, vc_agg, vc_int, vc_bool, vc_str, vc_ptr, vc_sl, vc_fn, boxOf, adInf, List.reverse_cons, List.reverse_nil, List.nil_append, List.cons_append, extK, Bool.and_true, Bool.true_and, Bool.not_true, Bool.not_false, resT, resVs, resV, true_and, and_true, storeK, spl_nil, spl_z, spl_1, spl_2, spl_3, spl_4, spl_5, spl_6, spl_7, spl_8, scal_int, scal_bool, scal_str, scal_nil, implies_true, Bool.and_self, Post_ret, Post_normal, PostS_ret, PostS_normal, retT_true, retT_false, flat_bool, flat_int, flat_str, List.take_length, decide_true, decide_false, Option.some.injEq, Value.bool.injEq, Value.int.injEq, Bool.false_and, Bool.and_false, not_false_eq_true, not_true_eq_false, toIntK, List.length_set, Nat.reduceMul, Bool.not_eq_true, Bool.not_eq_false, List.all_cons, List.all_nil, exps, fillL, buildK, strK, nilcK, fnK, callVT, List.size_toArray, List.append_nil, List.singleton_append, boxOK, newOK, scal_nil, List.isEmpty_nil, List.isEmpty_cons, mkVK, mkOK, mkCells, zeros_0, zeros_1, zeros_2, zeros_3, zeros_4, List.map_cons, List.map_nil, j0, j4, j5, j6]
      refine brT.intro (fun c3 => ?_) (fun c3 => ?_) <;> simp only [go_nil, go_blk, go_skip, go_ret, go_exit, go_seq, go_block, go_reg, go_r0, go_r, go_d0, go_d, go_e0, go_e, box2, Option.isSome_some, Nat.le_refl, go_cond, go_o, go_g, aft_some, cnd_bool, grd_bool, grd_tup, brT_true, brT_false, brT_not, thr_exit, thr_c, thr_nil, stp, stepK, movK, mv1, ex, exv, exvs, upd_some, upd_none, ini, St.val, binK, binV, ofV, pickK, unK, unV, beqK, beq_true, beq_false, if_true, if_false, List.getElem?_cons_zero, List.getElem?_cons_succ, ↓reduceIte, Nat.reduceEqDiff, reduceCtorEq, loadK, adr, deref, Ad.fv, Ad.live, fadrK, List.length_cons, List.length_nil, List.drop_zero, List.drop_succ_cons, List.take_succ_cons, List.take_zero, Nat.reduceAdd, Nat.reduceLeDiff, Nat.zero_add, Nat.add_zero, aeqK, agEq, scEq, boxVK, newVK, exc, vc_agg, vc_int, vc_bool, vc_str, vc_ptr, vc_sl, vc_fn, boxOf, adInf, List.reverse_cons, List.reverse_nil, List.nil_append, List.cons_append, extK, Bool.and_true, Bool.true_and, Bool.not_true, Bool.not_false, resT, resVs, resV, true_and, and_true, storeK, spl_nil, spl_z, spl_1, spl_2, spl_3, spl_4, spl_5, spl_6, spl_7, spl_8, scal_int, scal_bool, scal_str, scal_nil, implies_true, Bool.and_self, Post_ret, Post_normal, PostS_ret, PostS_normal, retT_true, retT_false, flat_bool, flat_int, flat_str, List.take_length, decide_true, decide_false, Option.some.injEq, Value.bool.injEq, Value.int.injEq, Bool.false_and, Bool.and_false, not_false_eq_true, not_true_eq_false, toIntK, List.length_set, Nat.reduceMul, Bool.not_eq_true, Bool.not_eq_false, List.all_cons, List.all_nil, exps, fillL, buildK, strK, nilcK, fnK, callVT, List.size_toArray, List.append_nil, List.singleton_append, boxOK, newOK, scal_nil, List.isEmpty_nil, List.isEmpty_cons, mkVK, mkOK, mkCells, zeros_0, zeros_1, zeros_2, zeros_3, zeros_4, List.map_cons, List.map_nil, j0, j4, j5, j6]
      · obtain ⟨j', rfl⟩ : ∃ j', j = j' + 1 := ⟨j - 1, by have := of_decide_eq_true c3; omega⟩
        obtain ⟨c, hc⟩ := byte_at (b := s) (i := j') (by omega)
        have j6' : ((j' + 1 : Nat) : Int) - 1 = (j' : Int) := by omega
        have hix := fun {t : St} {x y : X} => idx_at (s := t) (x := x) (y := y) hc
        have hcb : c.toNat < 256 := c.toNat_lt
        have hvs := valB_succ hc
        have hpw : 0 < (128 : Nat) ^ j' := Nat.pow_pos (by decide)
        have hn1 : (n * 128 + c.toNat % 128) * 128 ^ j' + valB s j' = valB s (i + 1) := by
          rw [Nat.add_mul, ← hv, hvs, Nat.pow_succ, Nat.mul_assoc, Nat.mul_comm 128]
          omega
        have hn2 : n * 128 + c.toNat % 128 ≤ valB s (i + 1) := le_of_mul (p := 128 ^ j') (by omega) hpw
        have t1 : Int.tmod ((c.toNat : Nat) : Int) 128 = ((c.toNat % 128 : Nat) : Int) := rfl
        simp only [go_nil, go_blk, go_skip, go_ret, go_exit, go_seq, go_block, go_reg, go_r0, go_r, go_d0, go_d, go_e0, go_e, box2, Option.isSome_some, Nat.le_refl, go_cond, go_o, go_g, aft_some, cnd_bool, grd_bool, grd_tup, brT_true, brT_false, brT_not, thr_exit, thr_c, thr_nil, stp, stepK, movK, mv1, ex, exv, exvs, upd_some, upd_none, ini, St.val, binK, binV, ofV, pickK, unK, unV, beqK, beq_true, beq_false, if_true, if_false, List.getElem?_cons_zero, List.getElem?_cons_succ, ↓reduceIte, Nat.reduceEqDiff, reduceCtorEq, loadK, adr, deref, Ad.fv, Ad.live, fadrK, List.length_cons, List.length_nil, List.drop_zero, List.drop_succ_cons, List.take_succ_cons, List.take_zero, Nat.reduceAdd, Nat.reduceLeDiff, Nat.zero_add, Nat.add_zero, aeqK, agEq, scEq, boxVK, newVK, exc, vc_agg, vc_int, vc_bool, vc_str, vc_ptr, vc_sl, vc_fn, boxOf, adInf, List.reverse_cons, List.reverse_nil, List.nil_append, List.cons_append, extK, Bool.and_true, Bool.true_and, Bool.not_true, Bool.not_false, resT, resVs, resV, true_and, and_true, storeK, spl_nil, spl_z, spl_1, spl_2, spl_3, spl_4, spl_5, spl_6, spl_7, spl_8, scal_int, scal_bool, scal_str, scal_nil, implies_true, Bool.and_self, Post_ret, Post_normal, PostS_ret, PostS_normal, retT_true, retT_false, flat_bool, flat_int, flat_str, List.take_length, decide_true, decide_false, Option.some.injEq, Value.bool.injEq, Value.int.injEq, Bool.false_and, Bool.and_false, not_false_eq_true, not_true_eq_false, toIntK, List.length_set, Nat.reduceMul, Bool.not_eq_true, Bool.not_eq_false, List.all_cons, List.all_nil, exps, fillL, buildK, strK, nilcK, fnK, callVT, List.size_toArray, List.append_nil, List.singleton_append, boxOK, newOK, scal_nil, List.isEmpty_nil, List.isEmpty_cons, mkVK, mkOK, mkCells, zeros_0, zeros_1, zeros_2, zeros_3, zeros_4, List.map_cons, List.map_nil, j0, j4, j5, j6, j6', hix, ne128, t1, wrap64 ((n : Int) * 128) (by omega) (by omega), wrap64 (((c.toNat : Nat) : Int)) (by omega) (by omega), wrap64 ((n : Int) * 128 + ((c.toNat % 128 : Nat) : Int)) (by omega) (by omega), wrap64 ((j' : Int) - 1) (by omega) (by omega)]
        exact ⟨j', by omega, jH, rfl, by omega, n * 128 + c.toNat % 128, by simp, hn1⟩
      · have : j = 0 := by have := of_decide_eq_false c3; omega
        subst this
        have : n = valB s (i + 1) := by simpa [valB] using hv
        subst this
        exact ⟨jH, rfl⟩
    · rintro t' ⟨jH, j0, j4, j5⟩
      have a94 := fun {m draw t d ts Q} => callT_at (m := m) (draw := draw) (s := t) (d := d) (ts := ts) (Q := Q) (f94 (H := t.H) (n := ((valB s (i + 1) : Nat) : Int)))
      have hsl := fun {t : St} {x y : X} => slc_to (s := t) (x := x) (y := y) his
      have wt := hw.pre hH
      simp only [go_nil, go_blk, go_skip, go_ret, go_exit, go_seq, go_block, go_reg, go_r0, go_r, go_d0, go_d, go_e0, go_e, box2, Option.isSome_some, Nat.le_refl, go_cond, go_o, go_g, aft_some, cnd_bool, grd_bool, grd_tup, brT_true, brT_false, brT_not, thr_exit, thr_c, thr_nil, stp, stepK, movK, mv1, ex, exv, exvs, upd_some, upd_none, ini, St.val, binK, binV, ofV, pickK, unK, unV, beqK, beq_true, beq_false, if_true, if_false, List.getElem?_cons_zero, List.getElem?_cons_succ, ↓reduceIte, Nat.reduceEqDiff, reduceCtorEq, loadK, adr, deref, Ad.fv, Ad.live, fadrK, List.length_cons, List.length_nil, List.drop_zero, List.drop_succ_cons, List.take_succ_cons, List.take_zero, Nat.reduceAdd, Nat.reduceLeDiff, Nat.zero_add, Nat.add_zero, aeqK, agEq, scEq, boxVK, newVK, exc, vc_agg, vc_int, vc_bool, vc_str, vc_ptr, vc_sl, vc_fn, boxOf, adInf, List.reverse_cons, List.reverse_nil, List.nil_append, List.cons_append, extK, Bool.and_true, Bool.true_and, Bool.not_true, Bool.not_false, resT, resVs, resV, true_and, and_true, storeK, spl_nil, spl_z, spl_1, spl_2, spl_3, spl_4, spl_5, spl_6, spl_7, spl_8, scal_int, scal_bool, scal_str, scal_nil, implies_true, Bool.and_self, Post_ret, Post_normal, PostS_ret, PostS_normal, retT_true, retT_false, flat_bool, flat_int, flat_str, List.take_length, decide_true, decide_false, Option.some.injEq, Value.bool.injEq, Value.int.injEq, Bool.false_and, Bool.and_false, not_false_eq_true, not_true_eq_false, toIntK, List.length_set, Nat.reduceMul, Bool.not_eq_true, Bool.not_eq_false, List.all_cons, List.all_nil, exps, fillL, buildK, strK, nilcK, fnK, callVT, List.size_toArray, List.append_nil, List.singleton_append, boxOK, newOK, scal_nil, List.isEmpty_nil, List.isEmpty_cons, mkVK, mkOK, mkCells, zeros_0, zeros_1, zeros_2, zeros_3, zeros_4, List.map_cons, List.map_nil]
      refine go_draw ?_
      simp only [go_nil, go_blk, go_skip, go_ret, go_exit, go_seq, go_block, go_reg, go_r0, go_r, go_d0, go_d, go_e0, go_e, box2, Option.isSome_some, Nat.le_refl, go_cond, go_o, go_g, aft_some, cnd_bool, grd_bool, grd_tup, brT_true, brT_false, brT_not, thr_exit, thr_c, thr_nil, stp, stepK, movK, mv1, ex, exv, exvs, upd_some, upd_none, ini, St.val, binK, binV, ofV, pickK, unK, unV, beqK, beq_true, beq_false, if_true, if_false, List.getElem?_cons_zero, List.getElem?_cons_succ, ↓reduceIte, Nat.reduceEqDiff, reduceCtorEq, loadK, adr, deref, Ad.fv, Ad.live, fadrK, List.length_cons, List.length_nil, List.drop_zero, List.drop_succ_cons, List.take_succ_cons, List.take_zero, Nat.reduceAdd, Nat.reduceLeDiff, Nat.zero_add, Nat.add_zero, aeqK, agEq, scEq, boxVK, newVK, exc, vc_agg, vc_int, vc_bool, vc_str, vc_ptr, vc_sl, vc_fn, boxOf, adInf, List.reverse_cons, List.reverse_nil, List.nil_append, List.cons_append, extK, Bool.and_true, Bool.true_and, Bool.not_true, Bool.not_false, resT, resVs, resV, true_and, and_true, storeK, spl_nil, spl_z, spl_1, spl_2, spl_3, spl_4, spl_5, spl_6, spl_7, spl_8, scal_int, scal_bool, scal_str, scal_nil, implies_true, Bool.and_self, Post_ret, Post_normal, PostS_ret, PostS_normal, retT_true, retT_false, flat_bool, flat_int, flat_str, List.take_length, decide_true, decide_false, Option.some.injEq, Value.bool.injEq, Value.int.injEq, Bool.false_and, Bool.and_false, not_false_eq_true, not_true_eq_false, toIntK, List.length_set, Nat.reduceMul, Bool.not_eq_true, Bool.not_eq_false, List.all_cons, List.all_nil, exps, fillL, buildK, strK, nilcK, fnK, callVT, List.size_toArray, List.append_nil, List.singleton_append, boxOK, newOK, scal_nil, List.isEmpty_nil, List.isEmpty_cons, mkVK, mkOK, mkCells, zeros_0, zeros_1, zeros_2, zeros_3, zeros_4, List.map_cons, List.map_nil, j0, j4, j5, a94, jH, wt, hsl]
      refine ⟨by rfl, ?_⟩
      refine brT.intro (fun c3 => ?_) (fun c3 => ?_) <;> simp only [go_nil, go_blk, go_skip, go_ret, go_exit, go_seq, go_block, go_reg, go_r0, go_r, go_d0, go_d, go_e0, go_e, box2, Option.isSome_some, Nat.le_refl, go_cond, go_o, go_g, aft_some, cnd_bool, grd_bool, grd_tup, brT_true, brT_false, brT_not, thr_exit, thr_c, thr_nil, stp, stepK, movK, mv1, ex, exv, exvs, upd_some, upd_none, ini, St.val, binK, binV, ofV, pickK, unK, unV, beqK, beq_true, beq_false, if_true, if_false, List.getElem?_cons_zero, List.getElem?_cons_succ, ↓reduceIte, Nat.reduceEqDiff, reduceCtorEq, loadK, adr, deref, Ad.fv, Ad.live, fadrK, List.length_cons, List.length_nil, List.drop_zero, List.drop_succ_cons, List.take_succ_cons, List.take_zero, Nat.reduceAdd, Nat.reduceLeDiff, Nat.zero_add, Nat.add_zero, aeqK, agEq, scEq, boxVK, newVK, exc, vc_agg, vc_int, vc_bool, vc_str, vc_ptr, vc_sl, vc_fn, boxOf, adInf, List.reverse_cons, List.reverse_nil, List.nil_append, List.cons_append, extK, Bool.and_true, Bool.true_and, Bool.not_true, Bool.not_false, resT, resVs, resV, true_and, and_true, storeK, spl_nil, spl_z, spl_1, spl_2, spl_3, spl_4, spl_5, spl_6, spl_7, spl_8, scal_int, scal_bool, scal_str, scal_nil, implies_true, Bool.and_self, Post_ret, Post_normal, PostS_ret, PostS_normal, retT_true, retT_false, flat_bool, flat_int, flat_str, List.take_length, decide_true, decide_false, Option.some.injEq, Value.bool.injEq, Value.int.injEq, Bool.false_and, Bool.and_false, not_false_eq_true, not_true_eq_false, toIntK, List.length_set, Nat.reduceMul, Bool.not_eq_true, Bool.not_eq_false, List.all_cons, List.all_nil, exps, fillL, buildK, strK, nilcK, fnK, callVT, List.size_toArray, List.append_nil, List.singleton_append, boxOK, newOK, scal_nil, List.isEmpty_nil, List.isEmpty_cons, mkVK, mkOK, mkCells, zeros_0, zeros_1, zeros_2, zeros_3, zeros_4, List.map_cons, List.map_nil, j0, j4, j5, jH, wrap64 (((i + 1 : Nat) : Int) + 1) (by omega) (by omega)]
      · have hv0 := of_decide_eq_true c3
        have hv : isV s (i + 1) := hv0
        have hr : readV s (valB s (i + 1)) (i + 1) := ⟨by omega, by omega, his, rfl, hv⟩
        rw [rdV_eq hr]
        exact ⟨rfl, pre_take hH⟩
      · have hv0 := of_decide_eq_false c3
        have hv : ¬ isV s (i + 1) := hv0
        refine ⟨hi7, hH, by simp, fun k h1 h2 => ?_⟩
        by_cases e : k = i + 1
        · subst e; exact hv
        · exact hn k (by omega) h2
  · rintro t ⟨hH, hn⟩
    simp only [go_nil, go_blk, go_skip, go_ret, go_exit, go_seq, go_block, go_reg, go_r0, go_r, go_d0, go_d, go_e0, go_e, box2, Option.isSome_some, Nat.le_refl, go_cond, go_o, go_g, aft_some, cnd_bool, grd_bool, grd_tup, brT_true, brT_false, brT_not, thr_exit, thr_c, thr_nil, stp, stepK, movK, mv1, ex, exv, exvs, upd_some, upd_none, ini, St.val, binK, binV, ofV, pickK, unK, unV, beqK, beq_true, beq_false, if_true, if_false, List.getElem?_cons_zero, List.getElem?_cons_succ, ↓reduceIte, Nat.reduceEqDiff, reduceCtorEq, loadK, adr, deref, Ad.fv, Ad.live, fadrK, List.length_cons, List.length_nil, List.drop_zero, List.drop_succ_cons, List.take_succ_cons, List.take_zero, Nat.reduceAdd, Nat.reduceLeDiff, Nat.zero_add, Nat.add_zero, aeqK, agEq, scEq, boxVK, newVK, exc, vc_agg, vc_int, vc_bool, vc_str, vc_ptr, vc_sl, vc_fn, boxOf, adInf, List.reverse_cons, List.reverse_nil, List.nil_append, List.cons_append, extK, Bool.and_true, Bool.true_and, Bool.not_true, Bool.not_false, resT, resVs, resV, true_and, and_true, storeK, spl_nil, spl_z, spl_1, spl_2, spl_3, spl_4, spl_5, spl_6, spl_7, spl_8, scal_int, scal_bool, scal_str, scal_nil, implies_true, Bool.and_self, Post_ret, Post_normal, PostS_ret, PostS_normal, retT_true, retT_false, flat_bool, flat_int, flat_str, List.take_length, decide_true, decide_false, Option.some.injEq, Value.bool.injEq, Value.int.injEq, Bool.false_and, Bool.and_false, not_false_eq_true, not_true_eq_false, toIntK, List.length_set, Nat.reduceMul, Bool.not_eq_true, Bool.not_eq_false, List.all_cons, List.all_nil, exps, fillL, buildK, strK, nilcK, fnK, callVT, List.size_toArray, List.append_nil, List.singleton_append, boxOK, newOK, scal_nil, List.isEmpty_nil, List.isEmpty_cons, mkVK, mkOK, mkCells, zeros_0, zeros_1, zeros_2, zeros_3, zeros_4, List.map_cons, List.map_nil]
    rw [rdV_none hn]
    exact ⟨rfl, pre_take hH⟩

theorem shl7 {d i : Nat} (hd : d < 128) (hi : i ≤ 6) : IntKind.i64.wrap (((d : Nat) : Int) * 2 ^ (min (Int.toNat ((7 * i : Nat) : Int)) IntKind.i64.bits)) = ((d * 128 ^ i : Nat) : Int) := by
  have e : min (Int.toNat ((7 * i : Nat) : Int)) IntKind.i64.bits = 7 * i := by
    rw [Int.toNat_natCast]
    show min (7 * i) 64 = 7 * i
    omega
  have hpow : (128 : Nat) ^ i = 2 ^ (7 * i) := by rw [show (128 : Nat) = 2 ^ 7 by decide, ← Nat.pow_mul]
  have hp : (128 : Nat) ^ i ≤ 128 ^ 6 := Nat.pow_le_pow_right (by decide) hi
  have h6 : (128 : Nat) ^ 6 = 4398046511104 := by decide
  have hm : d * 128 ^ i ≤ 127 * 128 ^ i := Nat.mul_le_mul_right _ (by omega)
  have e2 : ((d : Nat) : Int) * 2 ^ (7 * i) = ((d * 128 ^ i : Nat) : Int) := by rw [hpow]; push_cast; rfl
  rw [e, e2, wrap64 _ (by omega) (by generalize d * 128 ^ i = q at *; omega)]

theorem f128 {H : Hp} {s : ByteArray} (hs : s.size ≤ 4611686018427387904) : Scal EE 128 [.string s] H (.tuple #[.int .i64 ((rdV s).1 : Nat), .int .i64 ((rdV s).2 : Nat)]) := by
  refine scal_ok rfl rfl k128 (by simp [c128]) rfl fun m hw => ?_
  simp only [go_nil, go_blk, go_skip, go_ret, go_exit, go_seq, go_block, go_reg, go_r0, go_r, go_d0, go_d, go_e0, go_e, box2, Option.isSome_some, Nat.le_refl, go_cond, go_o, go_g, aft_some, cnd_bool, grd_bool, grd_tup, brT_true, brT_false, brT_not, thr_exit, thr_c, thr_nil, stp, stepK, movK, mv1, ex, exv, exvs, upd_some, upd_none, ini, St.val, binK, binV, ofV, pickK, unK, unV, beqK, beq_true, beq_false, if_true, if_false, List.getElem?_cons_zero, List.getElem?_cons_succ, ↓reduceIte, Nat.reduceEqDiff, reduceCtorEq, loadK, adr, deref, Ad.fv, Ad.live, fadrK, List.length_cons, List.length_nil, List.drop_zero, List.drop_succ_cons, List.take_succ_cons, List.take_zero, Nat.reduceAdd, Nat.reduceLeDiff, Nat.zero_add, Nat.add_zero, aeqK, agEq, scEq, boxVK, newVK, exc, vc_agg, vc_int, vc_bool, vc_str, vc_ptr, vc_sl, vc_fn, boxOf, adInf, List.reverse_cons, List.reverse_nil, List.nil_append, List.cons_append, extK, Bool.and_true, Bool.true_and, Bool.not_true, Bool.not_false, resT, resVs, resV, true_and, and_true, storeK, spl_nil, spl_z, spl_1, spl_2, spl_3, spl_4, spl_5, spl_6, spl_7, spl_8, scal_int, scal_bool, scal_str, scal_nil, implies_true, Bool.and_self, Post_ret, Post_normal, PostS_ret, PostS_normal, retT_true, retT_false, flat_bool, flat_int, flat_str, List.take_length, decide_true, decide_false, Option.some.injEq, Value.bool.injEq, Value.int.injEq, Bool.false_and, Bool.and_false, not_false_eq_true, not_true_eq_false, toIntK, List.length_set, Nat.reduceMul, Bool.not_eq_true, Bool.not_eq_false, List.all_cons, List.all_nil, exps, fillL, buildK, strK, nilcK, fnK, callVT, List.size_toArray, List.append_nil, List.singleton_append, boxOK, newOK, scal_nil, List.isEmpty_nil, List.isEmpty_cons, mkVK, mkOK, mkCells, zeros_0, zeros_1, zeros_2, zeros_3, zeros_4, List.map_cons, List.map_nil, c128]
  refine go_for 7 (fun i t => H <+: t.H ∧ t.ρ 0 = .val (.string s) ∧ t.ρ 5 = .val (.int .i64 i) ∧ t.ρ 4 = .val (.int .i64 ((valB s i : Nat) : Int)) ∧ i ≤ s.size ∧ ∀ k b, k < i → s[k]? = some b → 128 ≤ b.toNat)
    (fun t => H <+: t.H ∧ ∀ n k, ¬ readV s n k) ?_ ?_ ?_
  · exact ⟨List.prefix_refl _, by simp [upd, ini], by simp [upd], by simp [upd, valB], by omega, fun k b h => by omega⟩
  · rintro i t hi ⟨hH, h0, h5, h4, hil, hb⟩
    have nono : (7 ≤ i ∨ s.size ≤ i) → ∀ n k, ¬ readV s n k := fun h n k hr => by
      obtain ⟨r1, r2, r3, r4, r5⟩ := hr
      obtain ⟨b, hb2⟩ := byte_at (b := s) (i := k - 1) (by omega)
      have h1 := (isV_bits r1 r3 r5).2 b hb2
      have h2 := hb (k - 1) b (by omega) hb2
      omega
    simp only [go_nil, go_blk, go_skip, go_ret, go_exit, go_seq, go_block, go_reg, go_r0, go_r, go_d0, go_d, go_e0, go_e, box2, Option.isSome_some, Nat.le_refl, go_cond, go_o, go_g, aft_some, cnd_bool, grd_bool, grd_tup, brT_true, brT_false, brT_not, thr_exit, thr_c, thr_nil, stp, stepK, movK, mv1, ex, exv, exvs, upd_some, upd_none, ini, St.val, binK, binV, ofV, pickK, unK, unV, beqK, beq_true, beq_false, if_true, if_false, List.getElem?_cons_zero, List.getElem?_cons_succ, ↓reduceIte, Nat.reduceEqDiff, reduceCtorEq, loadK, adr, deref, Ad.fv, Ad.live, fadrK, List.length_cons, List.length_nil, List.drop_zero, List.drop_succ_cons, List.take_succ_cons, List.take_zero, Nat.reduceAdd, Nat.reduceLeDiff, Nat.zero_add, Nat.add_zero, aeqK, agEq, scEq, boxVK, newVK, exc, vc_agg, vc_int, vc_bool, vc_str, vc_ptr, vc_sl, vc_fn, boxOf, adInf, List.reverse_cons, List.reverse_nil, List.nil_append, List.cons_append, extK, Bool.and_true, Bool.true_and, Bool.not_true, Bool.not_false, resT, resVs, resV, true_and, and_true, storeK, spl_nil, spl_z, spl_1, spl_2, spl_3, spl_4, spl_5, spl_6, spl_7, spl_8, scal_int, scal_bool, scal_str, scal_nil, implies_true, Bool.and_self, Post_ret, Post_normal, PostS_ret, PostS_normal, retT_true, retT_false, flat_bool, flat_int, flat_str, List.take_length, decide_true, decide_false, Option.some.injEq, Value.bool.injEq, Value.int.injEq, Bool.false_and, Bool.and_false, not_false_eq_true, not_true_eq_false, toIntK, List.length_set, Nat.reduceMul, Bool.not_eq_true, Bool.not_eq_false, List.all_cons, List.all_nil, exps, fillL, buildK, strK, nilcK, fnK, callVT, List.size_toArray, List.append_nil, List.singleton_append, boxOK, newOK, scal_nil, List.isEmpty_nil, List.isEmpty_cons, mkVK, mkOK, mkCells, zeros_0, zeros_1, zeros_2, zeros_3, zeros_4, List.map_cons, List.map_nil, h0, h4, h5, lenTK]
    refine brT.intro (fun c1 => ?_) (fun c1 => ?_) <;> simp only [go_nil, go_blk, go_skip, go_ret, go_exit, go_seq, go_block, go_reg, go_r0, go_r, go_d0, go_d, go_e0, go_e, box2, Option.isSome_some, Nat.le_refl, go_cond, go_o, go_g, aft_some, cnd_bool, grd_bool, grd_tup, brT_true, brT_false, brT_not, thr_exit, thr_c, thr_nil, stp, stepK, movK, mv1, ex, exv, exvs, upd_some, upd_none, ini, St.val, binK, binV, ofV, pickK, unK, unV, beqK, beq_true, beq_false, if_true, if_false, List.getElem?_cons_zero, List.getElem?_cons_succ, ↓reduceIte, Nat.reduceEqDiff, reduceCtorEq, loadK, adr, deref, Ad.fv, Ad.live, fadrK, List.length_cons, List.length_nil, List.drop_zero, List.drop_succ_cons, List.take_succ_cons, List.take_zero, Nat.reduceAdd, Nat.reduceLeDiff, Nat.zero_add, Nat.add_zero, aeqK, agEq, scEq, boxVK, newVK, exc, vc_agg, vc_int, vc_bool, vc_str, vc_ptr, vc_sl, vc_fn, boxOf, adInf, List.reverse_cons, List.reverse_nil, List.nil_append, List.cons_append, extK, Bool.and_true, Bool.true_and, Bool.not_true, Bool.not_false, resT, resVs, resV, true_and, and_true, storeK, spl_nil, spl_z, spl_1, spl_2, spl_3, spl_4, spl_5, spl_6, spl_7, spl_8, scal_int, scal_bool, scal_str, scal_nil, implies_true, Bool.and_self, Post_ret, Post_normal, PostS_ret, PostS_normal, retT_true, retT_false, flat_bool, flat_int, flat_str, List.take_length, decide_true, decide_false, Option.some.injEq, Value.bool.injEq, Value.int.injEq, Bool.false_and, Bool.and_false, not_false_eq_true, not_true_eq_false, toIntK, List.length_set, Nat.reduceMul, Bool.not_eq_true, Bool.not_eq_false, List.all_cons, List.all_nil, exps, fillL, buildK, strK, nilcK, fnK, callVT, List.size_toArray, List.append_nil, List.singleton_append, boxOK, newOK, scal_nil, List.isEmpty_nil, List.isEmpty_cons, mkVK, mkOK, mkCells, zeros_0, zeros_1, zeros_2, zeros_3, zeros_4, List.map_cons, List.map_nil, c1, h0, h4, h5, lenTK]
    rotate_left
    · exact ⟨hH, nono (.inr (by have := of_decide_eq_false c1; omega))⟩
    refine brT.intro (fun c2 => ?_) (fun c2 => ?_) <;> simp only [go_nil, go_blk, go_skip, go_ret, go_exit, go_seq, go_block, go_reg, go_r0, go_r, go_d0, go_d, go_e0, go_e, box2, Option.isSome_some, Nat.le_refl, go_cond, go_o, go_g, aft_some, cnd_bool, grd_bool, grd_tup, brT_true, brT_false, brT_not, thr_exit, thr_c, thr_nil, stp, stepK, movK, mv1, ex, exv, exvs, upd_some, upd_none, ini, St.val, binK, binV, ofV, pickK, unK, unV, beqK, beq_true, beq_false, if_true, if_false, List.getElem?_cons_zero, List.getElem?_cons_succ, ↓reduceIte, Nat.reduceEqDiff, reduceCtorEq, loadK, adr, deref, Ad.fv, Ad.live, fadrK, List.length_cons, List.length_nil, List.drop_zero, List.drop_succ_cons, List.take_succ_cons, List.take_zero, Nat.reduceAdd, Nat.reduceLeDiff, Nat.zero_add, Nat.add_zero, aeqK, agEq, scEq, boxVK, newVK, exc, vc_agg, vc_int, vc_bool, vc_str, vc_ptr, vc_sl, vc_fn, boxOf, adInf, List.reverse_cons, List.reverse_nil, List.nil_append, List.cons_append, extK, Bool.and_true, Bool.true_and, Bool.not_true, Bool.not_false, resT, resVs, resV, true_and, and_true, storeK, spl_nil, spl_z, spl_1, spl_2, spl_3, spl_4, spl_5, spl_6, spl_7, spl_8, scal_int, scal_bool, scal_str, scal_nil, implies_true, Bool.and_self, Post_ret, Post_normal, PostS_ret, PostS_normal, retT_true, retT_false, flat_bool, flat_int, flat_str, List.take_length, decide_true, decide_false, Option.some.injEq, Value.bool.injEq, Value.int.injEq, Bool.false_and, Bool.and_false, not_false_eq_true, not_true_eq_false, toIntK, List.length_set, Nat.reduceMul, Bool.not_eq_true, Bool.not_eq_false, List.all_cons, List.all_nil, exps, fillL, buildK, strK, nilcK, fnK, callVT, List.size_toArray, List.append_nil, List.singleton_append, boxOK, newOK, scal_nil, List.isEmpty_nil, List.isEmpty_cons, mkVK, mkOK, mkCells, zeros_0, zeros_1, zeros_2, zeros_3, zeros_4, List.map_cons, List.map_nil, c1, c2, h0, h4, h5]
    rotate_left
    · exact ⟨hH, nono (.inl (by have := of_decide_eq_false c2; omega))⟩
    have hi7 : i < 7 := by have := of_decide_eq_true c2; omega
    have his : i < s.size := by have := of_decide_eq_true c1; omega
    obtain ⟨c, hc⟩ := byte_at his
    have hix := fun {t : St} {x y : X} => idx_at (s := t) (x := x) (y := y) hc
    have hcb : c.toNat < 256 := c.toNat_lt
    have t1 := and7u hcb
    have t2 : IntKind.i64.wrap (((c.toNat % 128 : Nat) : Int)) = ((c.toNat % 128 : Nat) : Int) := wrap64 _ (by omega) (by omega)
    have t3 : IntKind.i64.wrap (7 * (i : Int)) = ((7 * i : Nat) : Int) := by rw [wrap64 _ (by omega) (by omega)]; omega
    have t3n : ¬ (((7 * i : Nat) : Int) < 0) := by omega
    have t4 := shl7 (d := c.toNat % 128) (i := i) (by omega) (by omega)
    have t5 := orHi (valB_lt s i) (show c.toNat % 128 < 128 by omega) (show i ≤ 6 by omega)
    have hvs := valB_succ hc
    rw [← hvs] at t5
    have hvm := valB_max s (k := i + 1) (by omega)
    simp only [go_nil, go_blk, go_skip, go_ret, go_exit, go_seq, go_block, go_reg, go_r0, go_r, go_d0, go_d, go_e0, go_e, box2, Option.isSome_some, Nat.le_refl, go_cond, go_o, go_g, aft_some, cnd_bool, grd_bool, grd_tup, brT_true, brT_false, brT_not, thr_exit, thr_c, thr_nil, stp, stepK, movK, mv1, ex, exv, exvs, upd_some, upd_none, ini, St.val, binK, binV, ofV, pickK, unK, unV, beqK, beq_true, beq_false, if_true, if_false, List.getElem?_cons_zero, List.getElem?_cons_succ, ↓reduceIte, Nat.reduceEqDiff, reduceCtorEq, loadK, adr, deref, Ad.fv, Ad.live, fadrK, List.length_cons, List.length_nil, List.drop_zero, List.drop_succ_cons, List.take_succ_cons, List.take_zero, Nat.reduceAdd, Nat.reduceLeDiff, Nat.zero_add, Nat.add_zero, aeqK, agEq, scEq, boxVK, newVK, exc, vc_agg, vc_int, vc_bool, vc_str, vc_ptr, vc_sl, vc_fn, boxOf, adInf, List.reverse_cons, List.reverse_nil, List.nil_append, List.cons_append, extK, Bool.and_true, Bool.true_and, Bool.not_true, Bool.not_false, resT, resVs, resV, true_and, and_true, storeK, spl_nil, spl_z, spl_1, spl_2, spl_3, spl_4, spl_5, spl_6, spl_7, spl_8, scal_int, scal_bool, scal_str, scal_nil, implies_true, Bool.and_self, Post_ret, Post_normal, PostS_ret, PostS_normal, retT_true, retT_false, flat_bool, flat_int, flat_str, List.take_length, decide_true, decide_false, Option.some.injEq, Value.bool.injEq, Value.int.injEq, Bool.false_and, Bool.and_false, not_false_eq_true, not_true_eq_false, toIntK, List.length_set, Nat.reduceMul, Bool.not_eq_true, Bool.not_eq_false, List.all_cons, List.all_nil, exps, fillL, buildK, strK, nilcK, fnK, callVT, List.size_toArray, List.append_nil, List.singleton_append, boxOK, newOK, scal_nil, List.isEmpty_nil, List.isEmpty_cons, mkVK, mkOK, mkCells, zeros_0, zeros_1, zeros_2, zeros_3, zeros_4, List.map_cons, List.map_nil, h0, h4, h5, hix, t1, t2, t3, t3n, t4, t5]
    refine brT.intro (fun c3 => ?_) (fun c3 => ?_) <;> simp only [go_nil, go_blk, go_skip, go_ret, go_exit, go_seq, go_block, go_reg, go_r0, go_r, go_d0, go_d, go_e0, go_e, box2, Option.isSome_some, Nat.le_refl, go_cond, go_o, go_g, aft_some, cnd_bool, grd_bool, grd_tup, brT_true, brT_false, brT_not, thr_exit, thr_c, thr_nil, stp, stepK, movK, mv1, ex, exv, exvs, upd_some, upd_none, ini, St.val, binK, binV, ofV, pickK, unK, unV, beqK, beq_true, beq_false, if_true, if_false, List.getElem?_cons_zero, List.getElem?_cons_succ, ↓reduceIte, Nat.reduceEqDiff, reduceCtorEq, loadK, adr, deref, Ad.fv, Ad.live, fadrK, List.length_cons, List.length_nil, List.drop_zero, List.drop_succ_cons, List.take_succ_cons, List.take_zero, Nat.reduceAdd, Nat.reduceLeDiff, Nat.zero_add, Nat.add_zero, aeqK, agEq, scEq, boxVK, newVK, exc, vc_agg, vc_int, vc_bool, vc_str, vc_ptr, vc_sl, vc_fn, boxOf, adInf, List.reverse_cons, List.reverse_nil, List.nil_append, List.cons_append, extK, Bool.and_true, Bool.true_and, Bool.not_true, Bool.not_false, resT, resVs, resV, true_and, and_true, storeK, spl_nil, spl_z, spl_1, spl_2, spl_3, spl_4, spl_5, spl_6, spl_7, spl_8, scal_int, scal_bool, scal_str, scal_nil, implies_true, Bool.and_self, Post_ret, Post_normal, PostS_ret, PostS_normal, retT_true, retT_false, flat_bool, flat_int, flat_str, List.take_length, decide_true, decide_false, Option.some.injEq, Value.bool.injEq, Value.int.injEq, Bool.false_and, Bool.and_false, not_false_eq_true, not_true_eq_false, toIntK, List.length_set, Nat.reduceMul, Bool.not_eq_true, Bool.not_eq_false, List.all_cons, List.all_nil, exps, fillL, buildK, strK, nilcK, fnK, callVT, List.size_toArray, List.append_nil, List.singleton_append, boxOK, newOK, scal_nil, List.isEmpty_nil, List.isEmpty_cons, mkVK, mkOK, mkCells, zeros_0, zeros_1, zeros_2, zeros_3, zeros_4, List.map_cons, List.map_nil, c3, h0, h4, h5, wrap64 ((i : Int) + 1) (by omega) (by omega)]
    · have hlt : c.toNat < 128 := by have := of_decide_eq_true c3; omega
      have a99 := fun {m draw t d ts Q} => callT_at (m := m) (draw := draw) (s := t) (d := d) (ts := ts) (Q := Q) (f99 (H := t.H) (n := ((valB s (i + 1) : Nat) : Int)))
      have hsl : ∀ {t : St} {x y : X}, exv t.ρ x = some (.string s) → exv t.ρ y = some (.int .i64 ((i : Int) + 1)) → slcSK t x none (some y) = some (.val (.string (s.extract 0 (i + 1))), t) := fun {t x y} hx hy => slc_to (k := i + 1) (by omega) hx (by rw [hy]; rfl)
      have wt := hw.pre hH
      refine go_draw ?_
      simp only [go_nil, go_blk, go_skip, go_ret, go_exit, go_seq, go_block, go_reg, go_r0, go_r, go_d0, go_d, go_e0, go_e, box2, Option.isSome_some, Nat.le_refl, go_cond, go_o, go_g, aft_some, cnd_bool, grd_bool, grd_tup, brT_true, brT_false, brT_not, thr_exit, thr_c, thr_nil, stp, stepK, movK, mv1, ex, exv, exvs, upd_some, upd_none, ini, St.val, binK, binV, ofV, pickK, unK, unV, beqK, beq_true, beq_false, if_true, if_false, List.getElem?_cons_zero, List.getElem?_cons_succ, ↓reduceIte, Nat.reduceEqDiff, reduceCtorEq, loadK, adr, deref, Ad.fv, Ad.live, fadrK, List.length_cons, List.length_nil, List.drop_zero, List.drop_succ_cons, List.take_succ_cons, List.take_zero, Nat.reduceAdd, Nat.reduceLeDiff, Nat.zero_add, Nat.add_zero, aeqK, agEq, scEq, boxVK, newVK, exc, vc_agg, vc_int, vc_bool, vc_str, vc_ptr, vc_sl, vc_fn, boxOf, adInf, List.reverse_cons, List.reverse_nil, List.nil_append, List.cons_append, extK, Bool.and_true, Bool.true_and, Bool.not_true, Bool.not_false, resT, resVs, resV, true_and, and_true, storeK, spl_nil, spl_z, spl_1, spl_2, spl_3, spl_4, spl_5, spl_6, spl_7, spl_8, scal_int, scal_bool, scal_str, scal_nil, implies_true, Bool.and_self, Post_ret, Post_normal, PostS_ret, PostS_normal, retT_true, retT_false, flat_bool, flat_int, flat_str, List.take_length, decide_true, decide_false, Option.some.injEq, Value.bool.injEq, Value.int.injEq, Bool.false_and, Bool.and_false, not_false_eq_true, not_true_eq_false, toIntK, List.length_set, Nat.reduceMul, Bool.not_eq_true, Bool.not_eq_false, List.all_cons, List.all_nil, exps, fillL, buildK, strK, nilcK, fnK, callVT, List.size_toArray, List.append_nil, List.singleton_append, boxOK, newOK, scal_nil, List.isEmpty_nil, List.isEmpty_cons, mkVK, mkOK, mkCells, zeros_0, zeros_1, zeros_2, zeros_3, zeros_4, List.map_cons, List.map_nil, h0, h4, h5, a99, wt, hsl, wrap64 ((i : Int) + 1) (by omega) (by omega)]
      refine ⟨by rfl, ?_⟩
      refine brT.intro (fun c4 => ?_) (fun c4 => ?_) <;> simp only [go_nil, go_blk, go_skip, go_ret, go_exit, go_seq, go_block, go_reg, go_r0, go_r, go_d0, go_d, go_e0, go_e, box2, Option.isSome_some, Nat.le_refl, go_cond, go_o, go_g, aft_some, cnd_bool, grd_bool, grd_tup, brT_true, brT_false, brT_not, thr_exit, thr_c, thr_nil, stp, stepK, movK, mv1, ex, exv, exvs, upd_some, upd_none, ini, St.val, binK, binV, ofV, pickK, unK, unV, beqK, beq_true, beq_false, if_true, if_false, List.getElem?_cons_zero, List.getElem?_cons_succ, ↓reduceIte, Nat.reduceEqDiff, reduceCtorEq, loadK, adr, deref, Ad.fv, Ad.live, fadrK, List.length_cons, List.length_nil, List.drop_zero, List.drop_succ_cons, List.take_succ_cons, List.take_zero, Nat.reduceAdd, Nat.reduceLeDiff, Nat.zero_add, Nat.add_zero, aeqK, agEq, scEq, boxVK, newVK, exc, vc_agg, vc_int, vc_bool, vc_str, vc_ptr, vc_sl, vc_fn, boxOf, adInf, List.reverse_cons, List.reverse_nil, List.nil_append, List.cons_append, extK, Bool.and_true, Bool.true_and, Bool.not_true, Bool.not_false, resT, resVs, resV, true_and, and_true, storeK, spl_nil, spl_z, spl_1, spl_2, spl_3, spl_4, spl_5, spl_6, spl_7, spl_8, scal_int, scal_bool, scal_str, scal_nil, implies_true, Bool.and_self, Post_ret, Post_normal, PostS_ret, PostS_normal, retT_true, retT_false, flat_bool, flat_int, flat_str, List.take_length, decide_true, decide_false, Option.some.injEq, Value.bool.injEq, Value.int.injEq, Bool.false_and, Bool.and_false, not_false_eq_true, not_true_eq_false, toIntK, List.length_set, Nat.reduceMul, Bool.not_eq_true, Bool.not_eq_false, List.all_cons, List.all_nil, exps, fillL, buildK, strK, nilcK, fnK, callVT, List.size_toArray, List.append_nil, List.singleton_append, boxOK, newOK, scal_nil, List.isEmpty_nil, List.isEmpty_cons, mkVK, mkOK, mkCells, zeros_0, zeros_1, zeros_2, zeros_3, zeros_4, List.map_cons, List.map_nil, h0, h4, h5, wrap64 ((i : Int) + 1) (by omega) (by omega)]
      · have hv0 := of_decide_eq_true c4
        have hv : isV s (i + 1) := hv0
        have hr : readV s (valB s (i + 1)) (i + 1) := ⟨by omega, by omega, by omega, rfl, hv⟩
        rw [rdV_eq hr]
        exact ⟨rfl, pre_take hH⟩
      · have hv0 := of_decide_eq_false c4
        have hv : ¬ isV s (i + 1) := hv0
        have hn : ∀ n k, ¬ readV s n k := fun n k hr => by
          obtain ⟨r1, r2, r3, r4, r5⟩ := hr
          have hb2 := isV_bits r1 r3 r5
          rcases Nat.lt_trichotomy k (i + 1) with e | e | e
          · obtain ⟨b, hb3⟩ := byte_at (b := s) (i := k - 1) (by omega)
            have h1 := hb2.2 b hb3
            have h2 := hb (k - 1) b (by omega) hb3
            omega
          · subst e; exact hv r5
          · have := hb2.1 i c (by omega) hc
            omega
        rw [rdV_none hn]
        exact ⟨rfl, pre_take hH⟩
    · have hge : 128 ≤ c.toNat := by have := of_decide_eq_false c3; omega
      refine ⟨hi7, hH, by simp, by omega, fun k b hk hkb => ?_⟩
      by_cases e : k = i
      · subst e
        rw [hc] at hkb
        cases hkb
        exact hge
      · exact hb k b (by omega) hkb
  · rintro t ⟨hH, hn⟩
    simp only [go_nil, go_blk, go_skip, go_ret, go_exit, go_seq, go_block, go_reg, go_r0, go_r, go_d0, go_d, go_e0, go_e, box2, Option.isSome_some, Nat.le_refl, go_cond, go_o, go_g, aft_some, cnd_bool, grd_bool, grd_tup, brT_true, brT_false, brT_not, thr_exit, thr_c, thr_nil, stp, stepK, movK, mv1, ex, exv, exvs, upd_some, upd_none, ini, St.val, binK, binV, ofV, pickK, unK, unV, beqK, beq_true, beq_false, if_true, if_false, List.getElem?_cons_zero, List.getElem?_cons_succ, ↓reduceIte, Nat.reduceEqDiff, reduceCtorEq, loadK, adr, deref, Ad.fv, Ad.live, fadrK, List.length_cons, List.length_nil, List.drop_zero, List.drop_succ_cons, List.take_succ_cons, List.take_zero, Nat.reduceAdd, Nat.reduceLeDiff, Nat.zero_add, Nat.add_zero, aeqK, agEq, scEq, boxVK, newVK, exc, vc_agg, vc_int, vc_bool, vc_str, vc_ptr, vc_sl, vc_fn, boxOf, adInf, List.reverse_cons, List.reverse_nil, List.nil_append, List.cons_append, extK, Bool.and_true, Bool.true_and, Bool.not_true, Bool.not_false, resT, resVs, resV, true_and, and_true, storeK, spl_nil, spl_z, spl_1, spl_2, spl_3, spl_4, spl_5, spl_6, spl_7, spl_8, scal_int, scal_bool, scal_str, scal_nil, implies_true, Bool.and_self, Post_ret, Post_normal, PostS_ret, PostS_normal, retT_true, retT_false, flat_bool, flat_int, flat_str, List.take_length, decide_true, decide_false, Option.some.injEq, Value.bool.injEq, Value.int.injEq, Bool.false_and, Bool.and_false, not_false_eq_true, not_true_eq_false, toIntK, List.length_set, Nat.reduceMul, Bool.not_eq_true, Bool.not_eq_false, List.all_cons, List.all_nil, exps, fillL, buildK, strK, nilcK, fnK, callVT, List.size_toArray, List.append_nil, List.singleton_append, boxOK, newOK, scal_nil, List.isEmpty_nil, List.isEmpty_cons, mkVK, mkOK, mkCells, zeros_0, zeros_1, zeros_2, zeros_3, zeros_4, List.map_cons, List.map_nil]
    rw [rdV_none hn]
    exact ⟨rfl, pre_take hH⟩
end Go.Proofs.Ytpdkgbamakileaa.Ev

/- Terms: the program's way. -/
namespace Go.Proofs.Ytpdkgbamakileaa.Ev
set_option linter.all false
open Go
set_option maxRecDepth 4000

def isKey (k : Int) : Bool := decide (k ≥ 1) && decide (k ≤ 1000000)
theorem f97 {H : Hp} {a : Int} : Scal EE 97 [.int .i64 a] H (.bool (isKey a)) := by
  refine scal_ok rfl rfl k97 (by simp [c97]) rfl fun m hw => ?_
  simp only [go_sem, ↓reduceIte, Nat.reduceEqDiff, reduceCtorEq, Nat.reduceAdd, Nat.reduceLeDiff, Nat.reduceMul, c97, c112', hw]
  rfl
theorem c97' {m : Md} {draw : Bool} {s : St} {d : Option Nat} {ts : List Tk} {Q : Ex → St → Prop} {a : Int} (hw : Wr m s.H) :
    callT EE m draw 97 (some [.int .i64 a]) s d ts Q = go EE m ts { s with ρ := upd s.ρ d (.val (.bool (isKey a))) } Q := callT_at f97 rfl hw

/-- The number at a place; -1 without one. -/
noncomputable def vaN (s : ByteArray) (a : Nat) : Int := if (rdV (rest s a)).2 = 0 then -1 else ((rdV (rest s a)).1 : Nat)
theorem f119 {H : Hp} {s : ByteArray} {a : Nat} (hs : s.size ≤ 4611686018427387904) (ha : a ≤ s.size) : Scal EE 119 [.string s, .int .i64 a] H (.tuple #[.int .i64 (vaN s a), .int .i64 ((a + (rdV (rest s a)).2 : Nat) : Int)]) := by
  refine scal_ok rfl rfl k119 (by simp [c119]) rfl fun m hw => ?_
  have hsl := fun {t : St} {x y : X} => slc_rest (s := t) (x := x) (y := y) ha
  have hrs := rest_size s a
  have hr := rdV_le (rest s a)
  have a128 := fun {m draw t d ts Q} => callT_at (m := m) (draw := draw) (s := t) (d := d) (ts := ts) (Q := Q) (f128 (H := H) (s := rest s a) (by omega))
  simp only [go_sem, ↓reduceIte, Nat.reduceEqDiff, reduceCtorEq, Nat.reduceAdd, Nat.reduceLeDiff, Nat.reduceMul, c119, hsl, a128, hw, List.getElem?_toArray, ofV]
  refine brT.intro (fun h => ?_) (fun h => ?_) <;> simp only [go_sem, ↓reduceIte, Nat.reduceEqDiff, reduceCtorEq, Nat.reduceAdd, Nat.reduceLeDiff, Nat.reduceMul, wrap64 ((a : Int) + (((rdV (rest s a)).2 : Nat) : Int)) (by omega) (by omega)]
  · have h0 : (rdV (rest s a)).2 = 0 := by have := of_decide_eq_true h; omega
    unfold vaN
    rw [if_pos h0, h0]
    rfl
  · have h0 : ¬ (rdV (rest s a)).2 = 0 := by have := of_decide_eq_false h; omega
    unfold vaN
    rw [if_neg h0]
    rfl

def encT : Option Nat → Int
  | some e => (e : Int)
  | none => -1

theorem itr_none {f : Nat → Option Nat} : ∀ {i n e : Nat}, i ≤ n → itr f i e = none → itr f n e = none := fun {i n e} h hn => by
  induction n with
  | zero =>
    have : i = 0 := by omega
    subst this
    exact hn
  | succ n ih =>
    by_cases h2 : i = n + 1
    · subst h2; exact hn
    · rw [itr_succ, ih (by omega)]

theorem ch_eq {c : UInt8} {n : Nat} (h : n < 256) : ((c.toNat : Nat) : Int) = (n : Int) ↔ c = UInt8.ofNat n := by
  constructor
  · intro h2
    have h3 : c.toNat = n := by omega
    rw [← h3]
    simp
  · rintro rfl
    simp
    omega

theorem f120 {s : ByteArray} (hs : s.size ≤ 4611686018427387904) : ∀ (d : Nat), d ≤ 8 → ∀ {H : Hp} {a : Nat}, a ≤ 4611686018427387904 → Scal EE 120 [.string s, .int .i64 a, .int .i64 d] H (.int .i64 (encT (tmE s d a)))
  | 0, _, H, a, ha => by
    refine scal_ok rfl rfl k120 (by simp [c120]) rfl fun m hw => ?_
    simp only [go_sem, ↓reduceIte, Nat.reduceEqDiff, reduceCtorEq, Nat.reduceAdd, Nat.reduceLeDiff, Nat.reduceMul, c120, lenTK]
    refine brT.intro (fun h => ?_) (fun h => ?_) <;> simp only [go_sem, ↓reduceIte, Nat.reduceEqDiff, reduceCtorEq, Nat.reduceAdd, Nat.reduceLeDiff, Nat.reduceMul, h]
    · rfl
    · have hz : decide (((0 : Nat) : Int) < 1) = true := rfl
      simp only [go_sem, ↓reduceIte, Nat.reduceEqDiff, reduceCtorEq, Nat.reduceAdd, Nat.reduceLeDiff, Nat.reduceMul, hz]
      rfl
  | d + 1, hd, H, a, ha => by
    have ih : ∀ {H : Hp} {a : Nat}, a ≤ 4611686018427387904 → Scal EE 120 [.string s, .int .i64 a, .int .i64 d] H (.int .i64 (encT (tmE s d a))) := fun {H a} h => f120 hs d (by omega) h
    refine scal_ok rfl rfl k120 (by simp [c120]) rfl fun m hw => ?_
    have hz : decide (((d + 1 : Nat) : Int) < 1) = false := decide_eq_false (by omega)
    simp only [go_sem, ↓reduceIte, Nat.reduceEqDiff, reduceCtorEq, Nat.reduceAdd, Nat.reduceLeDiff, Nat.reduceMul, c120, lenTK]
    refine brT.intro (fun h => ?_) (fun h => ?_) <;> simp only [go_sem, ↓reduceIte, Nat.reduceEqDiff, reduceCtorEq, Nat.reduceAdd, Nat.reduceLeDiff, Nat.reduceMul, h, hz]
    · have hn : s[a]? = none := getElem?_neg s a (by show ¬ a < s.size; have := of_decide_eq_true h; omega)
      rw [tmE, tmStep, hn]
      rfl
    have hal : a < s.size := by have := of_decide_eq_false h; omega
    obtain ⟨c, hc⟩ := byte_at hal
    have hix := fun {t : St} {x y : X} => idx_at (s := t) (x := x) (y := y) hc
    have a119 := fun {m draw t d ts Q} => callT_at (m := m) (draw := draw) (s := t) (d := d) (ts := ts) (Q := Q) (f119 (H := H) (a := a + 1) hs (by omega))
    have e1 : ((a + 1 : Nat) : Int) = (a : Int) + 1 := by omega
    rw [e1] at a119
    have hr := rdV_le (rest s (a + 1))
    rw [rest_size] at hr
    have hT : tmE s (d + 1) a = tmStep s (tmE s d) a := rfl
    rw [hT, tmStep, hc]
    simp only
    have hN : vaN s (a + 1) = if (rdV (rest s (a + 1))).2 = 0 then -1 else ((rdV (rest s (a + 1))).1 : Int) := rfl
    generalize vaN s (a + 1) = N at hN a119
    generalize hp : rdV (rest s (a + 1)) = p at *
    obtain ⟨n, k⟩ := p
    simp only at hN hr a119 ⊢
    have dd : ∀ q : Nat, q < 256 → decide (((c.toNat : Nat) : Int) = (q : Int)) = decide (c = UInt8.ofNat q) := fun q hq => by rw [Bool.eq_iff_iff]; simp only [decide_eq_true_eq]; exact ch_eq hq
    have d97 : decide (((c.toNat : Nat) : Int) = 97) = decide (c = 97) := dd 97 (by decide)
    have d107 : decide (((c.toNat : Nat) : Int) = 107) = decide (c = 107) := dd 107 (by decide)
    have d108 : decide (((c.toNat : Nat) : Int) = 108) = decide (c = 108) := dd 108 (by decide)
    have d115 : decide (((c.toNat : Nat) : Int) = 115) = decide (c = 115) := dd 115 (by decide)
    have w1 : IntKind.i64.wrap ((a : Int) + 1) = (a : Int) + 1 := wrap64 _ (by omega) (by omega)
    have hNb : -1 ≤ N ∧ N ≤ 562949953421311 := by rw [hN]; split <;> omega
    have wd : IntKind.i64.wrap (((d + 1 : Nat) : Int) - 1) = (d : Int) := by rw [wrap64 _ (by omega) (by omega)]; omega
    simp only [go_sem, ↓reduceIte, Nat.reduceEqDiff, reduceCtorEq, Nat.reduceAdd, Nat.reduceLeDiff, Nat.reduceMul, hix, a119, hw, w1, List.getElem?_toArray, ofV, d97]
    have hNn : ¬ k = 0 → N = (n : Int) := fun h => by rw [hN, if_neg h]
    have hN0 : k = 0 → N = -1 := fun h => by rw [hN, if_pos h]
    refine brT.intro (fun h97 => ?_) (fun h97 => ?_) <;> simp only [go_sem, ↓reduceIte, Nat.reduceEqDiff, reduceCtorEq, Nat.reduceAdd, Nat.reduceLeDiff, Nat.reduceMul, d97, d107, c112', hw, hix]
    · have h97 : c = 97 := of_decide_eq_true h97
      refine brT.intro (fun q1 => ?_) (fun q1 => ?_) <;> simp only [go_sem, ↓reduceIte, Nat.reduceEqDiff, reduceCtorEq, Nat.reduceAdd, Nat.reduceLeDiff, Nat.reduceMul, q1, lenTK, wrap64 ((s.size : Int) - ((a + 1 + k : Nat) : Int)) (by omega) (by omega)]
      · have q1' : 0 ≤ N ∧ N ≤ 40 := by simpa using q1
        have hk : ¬ k = 0 := fun e => by have := hN0 e; omega
        have hn := hNn hk
        refine brT.intro (fun q2 => ?_) (fun q2 => ?_) <;> simp only [go_sem, ↓reduceIte, Nat.reduceEqDiff, reduceCtorEq, Nat.reduceAdd, Nat.reduceLeDiff, Nat.reduceMul, q1, wrap64 (((a + 1 + k : Nat) : Int) + N) (by omega) (by omega)]
        · have q2' := of_decide_eq_true q2
          rw [if_neg hk, if_pos h97, if_neg (by omega)]
          rfl
        · have q2' := of_decide_eq_false q2
          rw [if_neg hk, if_pos h97, if_pos (by omega)]
          simp only [encT]
          omega
      · have q1' : ¬ (0 ≤ N ∧ N ≤ 40) := by simpa using q1
        by_cases hk : k = 0
        · rw [if_pos hk]; rfl
        · have hn := hNn hk
          rw [if_neg hk, if_pos h97, if_neg (by omega)]
          rfl
    have h97 : ¬ c = 97 := of_decide_eq_false h97
    refine brT.intro (fun h107 => ?_) (fun h107 => ?_) <;> simp only [go_sem, ↓reduceIte, Nat.reduceEqDiff, reduceCtorEq, Nat.reduceAdd, Nat.reduceLeDiff, Nat.reduceMul, d107, d108, c97', hw, hix]
    · have h107 : c = 107 := of_decide_eq_true h107
      refine brT.intro (fun q1 => ?_) (fun q1 => ?_) <;> simp only [go_sem, ↓reduceIte, Nat.reduceEqDiff, reduceCtorEq, Nat.reduceAdd, Nat.reduceLeDiff, Nat.reduceMul]
      · have q1' : 1 ≤ N ∧ N ≤ 1000000 := by simpa [isKey] using q1
        have hk : ¬ k = 0 := fun e => by have := hN0 e; omega
        have hn := hNn hk
        rw [if_neg hk, if_neg h97, if_pos h107, if_pos (by omega)]
        rfl
      · have q1' : ¬ (1 ≤ N ∧ N ≤ 1000000) := by simpa [isKey] using q1
        by_cases hk : k = 0
        · rw [if_pos hk]; rfl
        · have hn := hNn hk
          rw [if_neg hk, if_neg h97, if_pos h107, if_neg (by omega)]
          rfl
    have h107 : ¬ c = 107 := of_decide_eq_false h107
    refine brT.intro (fun h108 => ?_) (fun h108 => ?_) <;> simp only [go_sem, ↓reduceIte, Nat.reduceEqDiff, reduceCtorEq, Nat.reduceAdd, Nat.reduceLeDiff, Nat.reduceMul, d108, d115, c112', hw, hix]
    · have h108 : c = 108 := of_decide_eq_true h108
      refine brT.intro (fun q1 => ?_) (fun q1 => ?_) <;> simp only [go_sem, ↓reduceIte, Nat.reduceEqDiff, reduceCtorEq, Nat.reduceAdd, Nat.reduceLeDiff, Nat.reduceMul]
      · have q1' : 0 ≤ N ∧ N ≤ 12 := by simpa using q1
        have hk : ¬ k = 0 := fun e => by have := hN0 e; omega
        have hn := hNn hk
        rw [if_neg hk, if_neg h97, if_neg h107, if_pos h108, if_pos (by omega)]
        refine go_for n (fun i t => t.H = H ∧ t.ρ 0 = .val (.string s) ∧ t.ρ 2 = .val (.int .i64 ((d + 1 : Nat) : Int)) ∧ t.ρ 7 = .val (.int .i64 N) ∧ t.ρ 9 = .val (.int .i64 i) ∧ t.ρ 8 = .val (.int .i64 (encT (itr (tmE s d) i (a + 1 + k)))))
          (fun t => t.H = H ∧ t.ρ 8 = .val (.int .i64 (encT (itr (tmE s d) n (a + 1 + k))))) ?_ ?_ ?_
        · exact ⟨rfl, by simp [upd, ini], by simp [upd, ini], by simp [upd], by simp [upd], by simp [upd, itr, encT]⟩
        · rintro i t hi ⟨hH, h0, h2, h7, h9, h8⟩
          simp only [go_sem, ↓reduceIte, Nat.reduceEqDiff, reduceCtorEq, Nat.reduceAdd, Nat.reduceLeDiff, Nat.reduceMul, h0, h2, h7, h8, h9]
          refine brT.intro (fun q2 => ?_) (fun q2 => ?_) <;> simp only [go_sem, ↓reduceIte, Nat.reduceEqDiff, reduceCtorEq, Nat.reduceAdd, Nat.reduceLeDiff, Nat.reduceMul, q2, h0, h2, h7, h8, h9]
          · have hin : i < n := by have := of_decide_eq_true q2; omega
            cases hit : itr (tmE s d) i (a + 1 + k) with
            | none =>
              have : decide (encT none ≥ 0) = false := rfl
              simp only [go_sem, ↓reduceIte, Nat.reduceEqDiff, reduceCtorEq, Nat.reduceAdd, Nat.reduceLeDiff, Nat.reduceMul, this, h0, h2, h7, h8, h9]
              exact ⟨hH, by rw [itr_none (Nat.le_of_lt hin) hit, hit]⟩
            | some e =>
              have he := itr_le (s := s) (f := tmE s d) (fun a e h => tmE_le h) (by omega) hit
              have : decide (encT (some e) ≥ 0) = true := decide_eq_true (by simp [encT])
              have hh8 : t.ρ 8 = .val (.int .i64 (e : Int)) := by rw [h8, hit]; rfl
              have a120 := fun {m draw t d' ts Q} => callT_at (m := m) (draw := draw) (s := t) (d := d') (ts := ts) (Q := Q) (ih (H := H) (a := e) (by omega))
              simp only [go_sem, ↓reduceIte, Nat.reduceEqDiff, reduceCtorEq, Nat.reduceAdd, Nat.reduceLeDiff, Nat.reduceMul, this, h0, h2, h7, hh8, h9, wd, hH, a120, hw, wrap64 ((i : Int) + 1) (by omega) (by omega)]
              refine ⟨hin, by simp, ?_⟩
              rw [itr_succ, hit]
          · have hin : i = n := by have := of_decide_eq_false q2; omega
            subst hin
            exact ⟨hH, rfl⟩
        · rintro t ⟨hH, h8⟩
          simp only [go_sem, ↓reduceIte, Nat.reduceEqDiff, reduceCtorEq, Nat.reduceAdd, Nat.reduceLeDiff, Nat.reduceMul, h8, hH]
      · have q1' : ¬ (0 ≤ N ∧ N ≤ 12) := by simpa using q1
        by_cases hk : k = 0
        · rw [if_pos hk]; rfl
        · have hn := hNn hk
          rw [if_neg hk, if_neg h97, if_neg h107, if_pos h108, if_neg (by omega)]
          rfl
    have h108 : ¬ c = 108 := of_decide_eq_false h108
    refine brT.intro (fun h115 => ?_) (fun h115 => ?_) <;> simp only [go_sem, ↓reduceIte, Nat.reduceEqDiff, reduceCtorEq, Nat.reduceAdd, Nat.reduceLeDiff, Nat.reduceMul, d115, c97', hw, hix]
    · have h115 : c = 115 := of_decide_eq_true h115
      refine brT.intro (fun q1 => ?_) (fun q1 => ?_) <;> simp only [go_sem, ↓reduceIte, Nat.reduceEqDiff, reduceCtorEq, Nat.reduceAdd, Nat.reduceLeDiff, Nat.reduceMul]
      · have q1' : 1 ≤ N ∧ N ≤ 1000000 := by simpa [isKey] using q1
        have hk : ¬ k = 0 := fun e => by have := hN0 e; omega
        have hn := hNn hk
        have a120 := fun {m draw t d' ts Q} => callT_at (m := m) (draw := draw) (s := t) (d := d') (ts := ts) (Q := Q) (ih (H := H) (a := a + 1 + k) (by omega))
        simp only [go_sem, ↓reduceIte, Nat.reduceEqDiff, reduceCtorEq, Nat.reduceAdd, Nat.reduceLeDiff, Nat.reduceMul, wd, a120, hw]
        rw [if_neg hk, if_neg h97, if_neg h107, if_neg h108, if_pos h115, if_pos (by omega)]
      · have q1' : ¬ (1 ≤ N ∧ N ≤ 1000000) := by simpa [isKey] using q1
        by_cases hk : k = 0
        · rw [if_pos hk]; rfl
        · have hn := hNn hk
          rw [if_neg hk, if_neg h97, if_neg h107, if_neg h108, if_pos h115, if_neg (by omega)]
          rfl
    have h115 : ¬ c = 115 := of_decide_eq_false h115
    by_cases hk : k = 0
    · rw [if_pos hk]; rfl
    · rw [if_neg hk, if_neg h97, if_neg h107, if_neg h108, if_neg h115]
      rfl
end Go.Proofs.Ytpdkgbamakileaa.Ev

/- Terms: the reference's way; what is a term. -/
namespace Go.Proofs.Ytpdkgbamakileaa.Ev
set_option linter.all false
open Go
set_option maxRecDepth 4000

/-- A function that leaves memory as it is and answers so. -/
def ScalP (E : Env) (f : Nat) (vs : List Value) (H : Hp) (P : Value → Prop) : Prop := ∀ m : Md, Wr m H → Fun E m f vs H fun r H' => P r ∧ H' = H
theorem scalP_ok {E : Env} {f : Nat} {cf : CF} {vs : List Value} {H : Hp} {P : Value → Prop} (ht : E.tr f = true) (hp : E.prim f = none) (hf : E.fns f = some cf) (hl : vs.length ≤ cf.nt)
    (h : ∀ m : Md, Wr m H → go E m [.c cf.body] { ρ := ini vs, gn := 0, H := H } (Post cf.res true H fun r H' => P r ∧ H' = H)) : ScalP E f vs H P :=
  fun m hw => fun_ok ht hp hf hl (h _ hw)

def lenE (a : Nat) : Option Nat → Int
  | some e => (e : Int) - a
  | none => 0

theorem f126 {s : ByteArray} (hs : s.size ≤ 4611686018427387904) : ∀ (d : Nat), d ≤ 8 → ∀ {H : Hp} {a : Nat}, a ≤ 4611686018427387904 → ScalP EE 126 [.string s, .int .i64 a, .int .i64 d] H fun r => ∃ dd : Int, r = .tuple #[.int .i64 (lenE a (tmE s d a)), .int .i64 dd]
  | 0, _, H, a, ha => by
    refine scalP_ok rfl rfl k126 (by simp [c126]) fun m hw => ?_
    simp only [go_sem, ↓reduceIte, Nat.reduceEqDiff, reduceCtorEq, Nat.reduceAdd, Nat.reduceLeDiff, Nat.reduceMul, c126, lenTK]
    refine brT.intro (fun h => ?_) (fun h => ?_) <;> simp only [go_sem, ↓reduceIte, Nat.reduceEqDiff, reduceCtorEq, Nat.reduceAdd, Nat.reduceLeDiff, Nat.reduceMul, h]
    · exact ⟨rfl, 0, rfl⟩
    · have hz : decide (((0 : Nat) : Int) < 1) = true := rfl
      simp only [go_sem, ↓reduceIte, Nat.reduceEqDiff, reduceCtorEq, Nat.reduceAdd, Nat.reduceLeDiff, Nat.reduceMul, hz]
      exact ⟨rfl, 0, rfl⟩
  | d + 1, hd, H, a, ha => by
    have ih : ∀ {H : Hp} {a : Nat}, a ≤ 4611686018427387904 → ScalP EE 126 [.string s, .int .i64 a, .int .i64 d] H fun r => ∃ dd : Int, r = .tuple #[.int .i64 (lenE a (tmE s d a)), .int .i64 dd] := fun {H a} h => f126 hs d (by omega) h
    refine scalP_ok rfl rfl k126 (by simp [c126]) fun m hw => ?_
    have hz : decide (((d + 1 : Nat) : Int) < 1) = false := decide_eq_false (by omega)
    have hT : tmE s (d + 1) a = tmStep s (tmE s d) a := rfl
    rw [hT, tmStep]
    simp only [go_sem, ↓reduceIte, Nat.reduceEqDiff, reduceCtorEq, Nat.reduceAdd, Nat.reduceLeDiff, Nat.reduceMul, c126, lenTK]
    refine brT.intro (fun h => ?_) (fun h => ?_) <;> simp only [go_sem, ↓reduceIte, Nat.reduceEqDiff, reduceCtorEq, Nat.reduceAdd, Nat.reduceLeDiff, Nat.reduceMul, h, hz]
    · have hn : s[a]? = none := getElem?_neg s a (by show ¬ a < s.size; have := of_decide_eq_true h; omega)
      rw [hn]
      exact ⟨rfl, 0, rfl⟩
    have hal : a < s.size := by have := of_decide_eq_false h; omega
    obtain ⟨c, hc⟩ := byte_at hal
    rw [hc]
    simp only
    have hix := fun {t : St} {x y : X} => idx_at (s := t) (x := x) (y := y) hc
    have hrs := rest_size s (a + 1)
    have a127 := fun {m draw t d ts Q} => callT_at (m := m) (draw := draw) (s := t) (d := d) (ts := ts) (Q := Q) (f127 (H := H) (s := rest s (a + 1)) (by omega))
    have hsl : ∀ {t : St} {x y : X}, exv t.ρ x = some (.string s) → exv t.ρ y = some (.int .i64 ((a : Int) + 1)) → slcSK t x (some y) none = some (.val (.string (rest s (a + 1))), t) := fun {t x y} hx hy => slc_rest (k := a + 1) (by omega) hx (by rw [hy]; rfl)
    have hr := rdV_le (rest s (a + 1))
    rw [rest_size] at hr
    generalize hp : rdV (rest s (a + 1)) = p at *
    obtain ⟨n, k⟩ := p
    simp only at hr a127 ⊢
    have dd : ∀ q : Nat, q < 256 → decide (((c.toNat : Nat) : Int) = (q : Int)) = decide (c = UInt8.ofNat q) := fun q hq => by rw [Bool.eq_iff_iff]; simp only [decide_eq_true_eq]; exact ch_eq hq
    have d97 : decide (((c.toNat : Nat) : Int) = 97) = decide (c = 97) := dd 97 (by decide)
    have d107 : decide (((c.toNat : Nat) : Int) = 107) = decide (c = 107) := dd 107 (by decide)
    have d108 : decide (((c.toNat : Nat) : Int) = 108) = decide (c = 108) := dd 108 (by decide)
    have d115 : decide (((c.toNat : Nat) : Int) = 115) = decide (c = 115) := dd 115 (by decide)
    have w1 : IntKind.i64.wrap ((a : Int) + 1) = (a : Int) + 1 := wrap64 _ (by omega) (by omega)
    have w2 : IntKind.i64.wrap ((a : Int) + 1 + (k : Int)) = ((a + 1 + k : Nat) : Int) := by rw [wrap64 _ (by omega) (by omega)]; omega
    have w3 : IntKind.i64.wrap (1 + (k : Int)) = 1 + (k : Int) := wrap64 _ (by omega) (by omega)
    have wd : IntKind.i64.wrap (((d + 1 : Nat) : Int) - 1) = (d : Int) := by rw [wrap64 _ (by omega) (by omega)]; omega
    simp only [go_sem, ↓reduceIte, Nat.reduceEqDiff, reduceCtorEq, Nat.reduceAdd, Nat.reduceLeDiff, Nat.reduceMul, hix, hsl, a127, hw, w1, w2, List.getElem?_toArray, ofV]
    refine brT.intro (fun hk => ?_) (fun hk => ?_) <;> simp only [go_sem, ↓reduceIte, Nat.reduceEqDiff, reduceCtorEq, Nat.reduceAdd, Nat.reduceLeDiff, Nat.reduceMul, hix, w1, w2, d97]
    · have hk : k = 0 := by have := of_decide_eq_true hk; omega
      rw [if_pos hk]
      exact ⟨rfl, 0, rfl⟩
    have hk : ¬ k = 0 := by have := of_decide_eq_false hk; omega
    rw [if_neg hk]
    refine brT.intro (fun h97 => ?_) (fun h97 => ?_) <;> simp only [go_sem, ↓reduceIte, Nat.reduceEqDiff, reduceCtorEq, Nat.reduceAdd, Nat.reduceLeDiff, Nat.reduceMul, d97, d107, c90', hw, hix, w3]
    · have h97 : c = 97 := of_decide_eq_true h97
      rw [if_pos h97]
      refine brT.intro (fun q1 => ?_) (fun q1 => ?_) <;> simp only [go_sem, ↓reduceIte, Nat.reduceEqDiff, reduceCtorEq, Nat.reduceAdd, Nat.reduceLeDiff, Nat.reduceMul, q1, w3, lenTK, wrap64 ((s.size : Int) - ((a + 1 + k : Nat) : Int)) (by omega) (by omega)]
      · have q1' := of_decide_eq_true q1
        rw [if_neg (by omega)]
        exact ⟨rfl, 0, rfl⟩
      · have q1' := of_decide_eq_false q1
        refine brT.intro (fun q2 => ?_) (fun q2 => ?_) <;> simp only [go_sem, ↓reduceIte, Nat.reduceEqDiff, reduceCtorEq, Nat.reduceAdd, Nat.reduceLeDiff, Nat.reduceMul, q1, w3, wrap64 (1 + (k : Int) + (n : Int)) (by omega) (by omega)]
        · have q2' := of_decide_eq_true q2
          rw [if_neg (by omega)]
          exact ⟨rfl, 0, rfl⟩
        · have q2' := of_decide_eq_false q2
          rw [if_pos (by omega)]
          refine ⟨rfl, 1, ?_⟩
          have : lenE a (some (a + 1 + k + n)) = 1 + (k : Int) + (n : Int) := by simp only [lenE]; omega
          rw [this]
    have h97 : ¬ c = 97 := of_decide_eq_false h97
    rw [if_neg h97]
    refine brT.intro (fun h107 => ?_) (fun h107 => ?_) <;> simp only [go_sem, ↓reduceIte, Nat.reduceEqDiff, reduceCtorEq, Nat.reduceAdd, Nat.reduceLeDiff, Nat.reduceMul, d107, d115, c90', hw, hix, w3]
    · have h107 : c = 107 := of_decide_eq_true h107
      rw [if_pos h107]
      refine brT.intro (fun q1 => ?_) (fun q1 => ?_) <;> simp only [go_sem, ↓reduceIte, Nat.reduceEqDiff, reduceCtorEq, Nat.reduceAdd, Nat.reduceLeDiff, Nat.reduceMul, w3]
      · have q1' : 1 ≤ (n : Int) ∧ (n : Int) ≤ 1000000 := by simpa using q1
        rw [if_pos (by omega)]
        refine ⟨rfl, 1, ?_⟩
        have : lenE a (some (a + 1 + k)) = 1 + (k : Int) := by simp only [lenE]; omega
        rw [this]
      · have q1' : ¬ (1 ≤ (n : Int) ∧ (n : Int) ≤ 1000000) := by simpa using q1
        rw [if_neg (by omega)]
        exact ⟨rfl, 0, rfl⟩
    have h107 : ¬ c = 107 := of_decide_eq_false h107
    rw [if_neg h107]
    refine brT.intro (fun h115 => ?_) (fun h115 => ?_) <;> simp only [go_sem, ↓reduceIte, Nat.reduceEqDiff, reduceCtorEq, Nat.reduceAdd, Nat.reduceLeDiff, Nat.reduceMul, d115, d108, wd, hix]
    · have h115 : c = 115 := of_decide_eq_true h115
      have h108 : ¬ c = 108 := by rw [h115]; decide
      rw [if_neg h108, if_pos h115]
      refine callT_to (fun m' h => ih (H := H) (a := a + 1 + k) (by omega) m' h) rfl hw fun r1 H1 ⟨⟨dd1, e1⟩, e2⟩ => ?_
      subst e1
      have e2 : H1 = H := e2
      subst e2
      simp only [go_sem, ↓reduceIte, Nat.reduceEqDiff, reduceCtorEq, Nat.reduceAdd, Nat.reduceLeDiff, Nat.reduceMul, List.getElem?_toArray, ofV]
      cases hf : tmE s d (a + 1 + k) with
      | none =>
        have z1 : decide (lenE (a + 1 + k) none = 0) = true := rfl
        simp only [go_sem, ↓reduceIte, Nat.reduceEqDiff, reduceCtorEq, Nat.reduceAdd, Nat.reduceLeDiff, Nat.reduceMul, z1]
        refine ⟨rfl, 0, ?_⟩
        split <;> rfl
      | some e =>
        have he := tmE_le hf
        have z1 : decide (lenE (a + 1 + k) (some e) = 0) = false := decide_eq_false (by simp only [lenE]; omega)
        simp only [go_sem, ↓reduceIte, Nat.reduceEqDiff, reduceCtorEq, Nat.reduceAdd, Nat.reduceLeDiff, Nat.reduceMul, z1, c90', hw]
        have wl : IntKind.i64.wrap (1 + (k : Int) + lenE (a + 1 + k) (some e)) = 1 + (k : Int) + lenE (a + 1 + k) (some e) := wrap64 _ (by simp only [lenE]; omega) (by simp only [lenE]; omega)
        refine brT.intro (fun q1 => ?_) (fun q1 => ?_) <;> simp only [go_sem, ↓reduceIte, Nat.reduceEqDiff, reduceCtorEq, Nat.reduceAdd, Nat.reduceLeDiff, Nat.reduceMul, z1, q1, w3, wl]
        · have q1' : 1 ≤ (n : Int) ∧ (n : Int) ≤ 1000000 := by simpa using q1
          rw [if_pos (by omega)]
          have : lenE a (some e) = 1 + (k : Int) + lenE (a + 1 + k) (some e) := by simp only [lenE]; omega
          rw [this]
          exact ⟨rfl, _, rfl⟩
        · have q1' : ¬ (1 ≤ (n : Int) ∧ (n : Int) ≤ 1000000) := by simpa using q1
          rw [if_neg (by omega)]
          exact ⟨rfl, 0, rfl⟩
    have h115 : ¬ c = 115 := of_decide_eq_false h115
    refine brT.intro (fun h108 => ?_) (fun h108 => ?_) <;> simp only [go_sem, ↓reduceIte, Nat.reduceEqDiff, reduceCtorEq, Nat.reduceAdd, Nat.reduceLeDiff, Nat.reduceMul, d108, hix]
    rotate_left
    · have h108 : ¬ c = 108 := of_decide_eq_false h108
      rw [if_neg h108, if_neg h115]
      exact ⟨rfl, 0, rfl⟩
    have h108 : c = 108 := of_decide_eq_true h108
    rw [if_pos h108]
    refine brT.intro (fun q1 => ?_) (fun q1 => ?_) <;> simp only [go_sem, ↓reduceIte, Nat.reduceEqDiff, reduceCtorEq, Nat.reduceAdd, Nat.reduceLeDiff, Nat.reduceMul]
    · have q1' := of_decide_eq_true q1
      rw [if_neg (by omega)]
      exact ⟨rfl, 0, rfl⟩
    have q1' := of_decide_eq_false q1
    rw [if_pos (show n ≤ 12 by omega)]
    refine go_for n (fun i t => t.H = H ∧ t.ρ 0 = .val (.string s) ∧ t.ρ 1 = .val (.int .i64 a) ∧ t.ρ 2 = .val (.int .i64 ((d + 1 : Nat) : Int)) ∧ t.ρ 8 = .val (.int .i64 n) ∧ t.ρ 14 = .val (.int .i64 i) ∧ (∃ dp : Int, t.ρ 13 = .val (.int .i64 dp)) ∧ ∃ e : Nat, t.ρ 10 = .val (.int .i64 e) ∧ itr (tmE s d) i (a + 1 + k) = some e)
      (fun t => t.H = H ∧ t.ρ 1 = .val (.int .i64 a) ∧ (∃ dp : Int, t.ρ 13 = .val (.int .i64 dp)) ∧ ∃ e : Nat, t.ρ 10 = .val (.int .i64 e) ∧ itr (tmE s d) n (a + 1 + k) = some e) ?_ ?_ ?_
    · exact ⟨rfl, by simp [upd, ini], by simp [upd, ini], by simp [upd, ini], by simp [upd], by simp [upd], ⟨0, by simp [upd]⟩, a + 1 + k, by simp [upd], rfl⟩
    · rintro i t hi ⟨hH, h0, h1, h2, h8, h14, ⟨dp, h13⟩, e, h10, hit⟩
      have he := itr_le (s := s) (f := tmE s d) (fun a e h => tmE_le h) (by omega) hit
      simp only [go_sem, ↓reduceIte, Nat.reduceEqDiff, reduceCtorEq, Nat.reduceAdd, Nat.reduceLeDiff, Nat.reduceMul, h0, h1, h2, h8, h10, h13, h14]
      refine brT.intro (fun q2 => ?_) (fun q2 => ?_) <;> simp only [go_sem, ↓reduceIte, Nat.reduceEqDiff, reduceCtorEq, Nat.reduceAdd, Nat.reduceLeDiff, Nat.reduceMul, h0, h1, h2, h8, h10, h13, h14, wd]
      · have hin : i < n := by have := of_decide_eq_true q2; omega
        refine callT_to (fun m' h => ih (H := H) (a := e) (by omega) m' h) hH hw fun r1 H1 ⟨⟨dd1, e1⟩, e2⟩ => ?_
        subst e1 e2
        simp only [go_sem, ↓reduceIte, Nat.reduceEqDiff, reduceCtorEq, Nat.reduceAdd, Nat.reduceLeDiff, Nat.reduceMul, h0, h1, h2, h8, h10, h13, h14, List.getElem?_toArray, ofV]
        cases hf : tmE s d e with
        | none =>
          have z1 : decide (lenE e none = 0) = true := rfl
          have hno : itr (tmE s d) n (a + 1 + k) = none := itr_none (i := i + 1) hin (by rw [itr_succ, hit]; exact hf)
          simp only [go_sem, ↓reduceIte, Nat.reduceEqDiff, reduceCtorEq, Nat.reduceAdd, Nat.reduceLeDiff, Nat.reduceMul, z1, h0, h1, h2, h8, h10, h13, h14]
          rw [hno]
          exact ⟨rfl, 0, rfl⟩
        | some e' =>
          have he' := tmE_le hf
          have z1 : decide (lenE e (some e') = 0) = false := decide_eq_false (by simp only [lenE]; omega)
          have z2 : (e : Int) + lenE e (some e') = (e' : Int) := by simp only [lenE]; omega
          simp only [go_sem, ↓reduceIte, Nat.reduceEqDiff, reduceCtorEq, Nat.reduceAdd, Nat.reduceLeDiff, Nat.reduceMul, z1, h0, h1, h2, h8, h10, h13, h14, z2, wrap64 ((e' : Nat) : Int) (by omega) (by omega)]
          refine brT.intro (fun q3 => ?_) (fun q3 => ?_) <;> simp only [go_sem, ↓reduceIte, Nat.reduceEqDiff, reduceCtorEq, Nat.reduceAdd, Nat.reduceLeDiff, Nat.reduceMul, h0, h1, h2, h8, h10, h13, h14, wrap64 ((i : Int) + 1) (by omega) (by omega)]
          · exact ⟨hin, by simp, ⟨_, rfl⟩, e', rfl, by rw [itr_succ, hit]; exact hf⟩
          · exact ⟨hin, by simp, ⟨_, rfl⟩, e', rfl, by rw [itr_succ, hit]; exact hf⟩
      · have hin : i = n := by have := of_decide_eq_false q2; omega
        subst hin
        exact ⟨hH, ⟨_, rfl⟩, e, rfl, hit⟩
    · rintro t ⟨hH, h1, ⟨dp, h13⟩, e, h10, hit⟩
      have he := itr_le (s := s) (f := tmE s d) (fun a e h => tmE_le h) (by omega) hit
      simp only [go_sem, ↓reduceIte, Nat.reduceEqDiff, reduceCtorEq, Nat.reduceAdd, Nat.reduceLeDiff, Nat.reduceMul, h1, h13, h10, hH, wrap64 ((e : Int) - (a : Int)) (by omega) (by omega)]
      rw [hit]
      exact ⟨rfl, _, rfl⟩
end Go.Proofs.Ytpdkgbamakileaa.Ev

/- What is a term; atoms, lists, seals; the law SealHead. -/
namespace Go.Proofs.Ytpdkgbamakileaa.Ev
set_option linter.all false
open Go
set_option maxRecDepth 4000

theorem tmE_8 {s : ByteArray} {e : Nat} (h : tmE s 8 0 = some e) : e ≤ s.size := (tmE_le h).2

theorem f88 {H : Hp} {s : ByteArray} (hs : s.size ≤ 4611686018427387904) : Scal EE 88 [.string s] H (.bool (tOk s)) := by
  refine scal_ok rfl rfl k88 (by simp [c88]) rfl fun m hw => ?_
  simp only [go_sem, ↓reduceIte, Nat.reduceEqDiff, reduceCtorEq, Nat.reduceAdd, Nat.reduceLeDiff, Nat.reduceMul, c88]
  refine callT_to (fun m' h => f126 hs 8 (Nat.le_refl _) (H := H) (a := 0) (by omega) m' h) rfl hw fun r1 H1 ⟨⟨dd1, e1⟩, e2⟩ => ?_
  subst e1
  have e2 : H1 = H := e2
  subst e2
  have key : tOk s = (decide (lenE 0 (tmE s 8 0) > 0) && decide (lenE 0 (tmE s 8 0) = (s.size : Int)) && decide (lenE 0 (tmE s 8 0) ≤ 900)) := by
    rw [Bool.eq_iff_iff, tOk_t]
    simp only [Bool.and_eq_true, decide_eq_true_eq]
    unfold TOk
    cases h : tmE s 8 0 with
    | none => simp [lenE]
    | some e =>
      have := tmE_8 h
      simp only [lenE, Option.some.injEq]
      omega
  rw [key]
  simp only [go_sem, ↓reduceIte, Nat.reduceEqDiff, reduceCtorEq, Nat.reduceAdd, Nat.reduceLeDiff, Nat.reduceMul, List.getElem?_toArray, ofV, lenTK]
  refine brT.intro (fun q1 => ?_) (fun q1 => ?_) <;> simp only [go_sem, ↓reduceIte, Nat.reduceEqDiff, reduceCtorEq, Nat.reduceAdd, Nat.reduceLeDiff, Nat.reduceMul, q1, lenTK]
  refine brT.intro (fun q2 => ?_) (fun q2 => ?_) <;> simp only [go_sem, ↓reduceIte, Nat.reduceEqDiff, reduceCtorEq, Nat.reduceAdd, Nat.reduceLeDiff, Nat.reduceMul, q1, q2, lenTK]

theorem f96 {H : Hp} {s : ByteArray} (hs : s.size ≤ 4611686018427387904) : Scal EE 96 [.string s] H (.bool (tOk s)) := by
  refine scal_ok rfl rfl k96 (by simp [c96]) rfl fun m hw => ?_
  have a120 := fun {m draw t d' ts Q} => callT_at (m := m) (draw := draw) (s := t) (d := d') (ts := ts) (Q := Q) (f120 hs 8 (Nat.le_refl _) (H := H) (a := 0) (by omega))
  have a120 : ∀ {m : Md} {draw : Bool} {t : St} {d' : Option Nat} {ts : List Tk} {Q : Ex → St → Prop}, t.H = H → Wr m H → callT EE m draw 120 (some [.string s, .int .i64 0, .int .i64 8]) t d' ts Q = go EE m ts { t with ρ := upd t.ρ d' (.val (.int .i64 (encT (tmE s 8 0)))) } Q := fun {m draw t d' ts Q} h1 h2 => a120 h1 h2
  have key : tOk s = ((decide ((s.size : Int) ≥ 1) && decide ((s.size : Int) ≤ 900)) && decide (encT (tmE s 8 0) = (s.size : Int))) := by
    rw [Bool.eq_iff_iff, tOk_t]
    simp only [Bool.and_eq_true, decide_eq_true_eq]
    unfold TOk
    cases h : tmE s 8 0 with
    | none => simp [encT]
    | some e => simp only [encT, Option.some.injEq]; omega
  rw [key]
  simp only [go_sem, ↓reduceIte, Nat.reduceEqDiff, reduceCtorEq, Nat.reduceAdd, Nat.reduceLeDiff, Nat.reduceMul, c96, lenTK, c112', hw]
  refine brT.intro (fun q1 => ?_) (fun q1 => ?_) <;> simp only [go_sem, ↓reduceIte, Nat.reduceEqDiff, reduceCtorEq, Nat.reduceAdd, Nat.reduceLeDiff, Nat.reduceMul, q1, a120, hw, lenTK]

theorem f95 {H : Hp} {s : ByteArray} (hs : s.size ≤ 4611686018427387904) : Scal EE 95 [.string s] H (.string (okB s)) := by
  refine scal_ok rfl rfl k95 (by simp [c95]) rfl fun m hw => ?_
  have a88 := fun {m draw t d ts Q} => callT_at (m := m) (draw := draw) (s := t) (d := d) (ts := ts) (Q := Q) (f88 (H := H) hs)
  simp only [go_sem, ↓reduceIte, Nat.reduceEqDiff, reduceCtorEq, Nat.reduceAdd, Nat.reduceLeDiff, Nat.reduceMul, c95, a88, hw]
  unfold okB
  refine brT.intro (fun q1 => ?_) (fun q1 => ?_) <;> simp only [go_sem, ↓reduceIte, Nat.reduceEqDiff, reduceCtorEq, Nat.reduceAdd, Nat.reduceLeDiff, Nat.reduceMul, q1]
  rfl
theorem f98 {H : Hp} {s : ByteArray} (hs : s.size ≤ 4611686018427387904) : Scal EE 98 [.string s] H (.string (okB s)) := by
  refine scal_ok rfl rfl k98 (by simp [c98]) rfl fun m hw => ?_
  have a96 := fun {m draw t d ts Q} => callT_at (m := m) (draw := draw) (s := t) (d := d) (ts := ts) (Q := Q) (f96 (H := H) hs)
  simp only [go_sem, ↓reduceIte, Nat.reduceEqDiff, reduceCtorEq, Nat.reduceAdd, Nat.reduceLeDiff, Nat.reduceMul, c98, a96, hw]
  unfold okB
  refine brT.intro (fun q1 => ?_) (fun q1 => ?_) <;> simp only [go_sem, ↓reduceIte, Nat.reduceEqDiff, reduceCtorEq, Nat.reduceAdd, Nat.reduceLeDiff, Nat.reduceMul, q1]
  rfl

theorem app_size (a b : ByteArray) : (a ++ b).size = a.size + b.size := ByteArray.size_append
theorem sz1 (c : UInt8) : (⟨#[c]⟩ : ByteArray).size = 1 := rfl

theorem f56 {H : Hp} {x : ByteArray} (hx : x.size ≤ 40) : Scal EE 56 [.string x] H (.string (atomB x)) := by
  refine scal_ok rfl rfl k56 (by simp [c56]) rfl fun m hw => ?_
  have hv := varB_size (x.size : Int)
  have hA : (⟨#[97]⟩ : ByteArray).size + (varB (x.size : Int)).size ≤ 9223372036854775807 := by rw [sz1]; omega
  have hB : ((⟨#[97]⟩ : ByteArray) ++ varB (x.size : Int)).size + x.size ≤ 9223372036854775807 := by rw [app_size, sz1]; omega
  have a94 := fun {m draw t d ts Q} => callT_at (m := m) (draw := draw) (s := t) (d := d) (ts := ts) (Q := Q) (f94 (H := H) (n := (x.size : Int)))
  have a95 := fun {m draw t d ts Q} => callT_at (m := m) (draw := draw) (s := t) (d := d) (ts := ts) (Q := Q) (f95 (H := H) (s := (⟨#[97]⟩ : ByteArray) ++ varB (x.size : Int) ++ x) (by rw [app_size, app_size, sz1]; omega))
  have hd : decide ((x.size : Int) > 40) = false := decide_eq_false (by omega)
  simp only [go_sem, ↓reduceIte, Nat.reduceEqDiff, reduceCtorEq, Nat.reduceAdd, Nat.reduceLeDiff, Nat.reduceMul, c56, lenTK, hd, a94, hw, hA, hB, a95]
  rfl
theorem f54 {H : Hp} {k : Int} {t : ByteArray} (ht : t.size ≤ 1048576) : Scal EE 54 [.int .i64 k, .string t] H (.string (sealB k t)) := by
  refine scal_ok rfl rfl k54 (by simp [c54]) rfl fun m hw => ?_
  have hv := varB_size k
  have hA : (⟨#[115]⟩ : ByteArray).size + (varB k).size ≤ 9223372036854775807 := by rw [sz1]; omega
  have hB : ((⟨#[115]⟩ : ByteArray) ++ varB k).size + t.size ≤ 9223372036854775807 := by rw [app_size, sz1]; omega
  have a94 := fun {m draw t d ts Q} => callT_at (m := m) (draw := draw) (s := t) (d := d) (ts := ts) (Q := Q) (f94 (H := H) (n := k))
  have a88 := fun {m draw u d ts Q} => callT_at (m := m) (draw := draw) (s := u) (d := d) (ts := ts) (Q := Q) (f88 (H := H) (s := t) (by omega))
  have a95 := fun {m draw u d ts Q} => callT_at (m := m) (draw := draw) (s := u) (d := d) (ts := ts) (Q := Q) (f95 (H := H) (s := (⟨#[115]⟩ : ByteArray) ++ varB k ++ t) (by rw [app_size, app_size, sz1]; omega))
  simp only [go_sem, ↓reduceIte, Nat.reduceEqDiff, reduceCtorEq, Nat.reduceAdd, Nat.reduceLeDiff, Nat.reduceMul, c54, c90', hw]
  unfold sealB
  refine brT.intro (fun q1 => ?_) (fun q1 => ?_) <;> simp only [go_sem, ↓reduceIte, Nat.reduceEqDiff, reduceCtorEq, Nat.reduceAdd, Nat.reduceLeDiff, Nat.reduceMul, q1, a88, hw]
  · have q1' : 1 ≤ k ∧ k ≤ 1000000 := by simpa using q1
    refine brT.intro (fun q2 => ?_) (fun q2 => ?_) <;> simp only [go_sem, ↓reduceIte, Nat.reduceEqDiff, reduceCtorEq, Nat.reduceAdd, Nat.reduceLeDiff, Nat.reduceMul, q1, q2, a94, hw, hA, hB, a95]
    · rw [if_pos q1']
      rfl
    · rfl
  · have q1' : ¬ (1 ≤ k ∧ k ≤ 1000000) := by simpa using q1
    rw [if_neg (fun h => q1' h.2)]
    rfl
end Go.Proofs.Ytpdkgbamakileaa.Ev

/- Lists of terms; the law SealHead. -/
namespace Go.Proofs.Ytpdkgbamakileaa.Ev
set_option linter.all false
open Go
set_option maxRecDepth 4000

def eS (b : ByteArray) : List Value := [.string b]
abbrev SlS (H : Hp) (v : Value) (l : List ByteArray) : Prop := Sl (En eS) 1 H v l
theorem Sl.str {H : Hp} {v : Value} {l : List ByteArray} (h : SlS H v l) {i : Nat} {a : ByteArray} (hi : l[i]? = some a) : ∃ id p o, H[id]? = some o ∧ o[p]? = some (.string a) ∧
    ∀ (s : St) (x y : X), exv s.ρ x = some v → exv s.ρ y = some (.int .i64 i) → iadrK s 1 x y = some (.val (.pointer (some ⟨id, p, some o.length⟩)), s) := by
  obtain ⟨id, p, o, ho, hr, hp, hia⟩ := h.elem hi
  unfold En at hr
  exact ⟨id, p, o, ho, by simpa [eS] using getElem?_of_take hr (j := 0) (by omega), hia⟩

/-- A list's text so far. -/
noncomputable def lsB (l : List ByteArray) (i : Nat) : ByteArray := (l.take i).foldl (· ++ ·) (chL ++ varB l.length)
theorem lsB_succ {l : List ByteArray} {i : Nat} (h : i < l.length) : lsB l (i + 1) = lsB l i ++ l[i] := by
  unfold lsB
  rw [List.take_succ_eq_append_getElem h, List.foldl_append]
  rfl
theorem lsB_size {l : List ByteArray} (hl : ∀ x ∈ l, x.size ≤ 1048576) : ∀ {i : Nat}, i ≤ l.length → (lsB l i).size ≤ 8 + 1048576 * i
  | 0, _ => by
    have := varB_size (l.length : Int)
    unfold lsB
    rw [List.take_zero, List.foldl_nil, app_size]
    have : chL.size = 1 := rfl
    omega
  | i + 1, h => by
    rw [lsB_succ h, app_size]
    have := lsB_size hl (i := i) (by omega)
    have := hl _ (List.getElem_mem h)
    omega
theorem listB_no {l : List ByteArray} {x : ByteArray} (hx : x ∈ l) (h : tOk x = false) : listB l = ⟨#[]⟩ := by
  unfold listB
  rw [if_neg (fun h2 => by rw [h2.1 x hx] at h; cases h)]
  rfl
theorem listB_yes {l : List ByteArray} (h : ∀ x ∈ l, tOk x = true) (h12 : l.length ≤ 12) : listB l = okB (lsB l l.length) := by
  unfold listB lsB
  rw [if_pos ⟨h, h12⟩, List.take_length]

theorem f55 {H : Hp} {v : Value} {l : List ByteArray} (hv : SlS H v l) (h12 : l.length ≤ 12) (hl : ∀ x ∈ l, x.size ≤ 1048576) : Scal EE 55 [v] H (.string (listB l)) := by
  refine scal_ok rfl rfl k55 (by simp [c55]) rfl fun m hw => ?_
  have hb := varB_size (l.length : Int)
  have hA : (⟨#[108]⟩ : ByteArray).size + (varB (l.length : Int)).size ≤ 9223372036854775807 := by rw [sz1]; omega
  have a94 := fun {m draw t d ts Q} => callT_at (m := m) (draw := draw) (s := t) (d := d) (ts := ts) (Q := Q) (f94 (H := H) (n := (l.length : Int)))
  have hd : decide ((l.length : Int) > 12) = false := decide_eq_false (by omega)
  simp only [go_sem, ↓reduceIte, Nat.reduceEqDiff, reduceCtorEq, Nat.reduceAdd, Nat.reduceLeDiff, Nat.reduceMul, c55, hv.len, hd, a94, hw, hA]
  refine go_for l.length (fun i s => s.H = H ∧ s.ρ 0 = .val v ∧ s.ρ 4 = .val (.int .i64 i) ∧ s.ρ 3 = .val (.string (lsB l i)) ∧ ∀ x ∈ l.take i, tOk x = true)
    (fun s => s.H = H ∧ s.ρ 3 = .val (.string (lsB l l.length)) ∧ ∀ x ∈ l, tOk x = true) ?_ ?_ ?_
  · exact ⟨rfl, by simp [upd, ini], by simp [upd], by simp [upd, lsB]; rfl, by simp⟩
  · rintro i s hi ⟨hH, h0, h4, h3, hok⟩
    simp only [go_sem, ↓reduceIte, Nat.reduceEqDiff, reduceCtorEq, Nat.reduceAdd, Nat.reduceLeDiff, Nat.reduceMul, h0, h3, h4, hv.len]
    refine brT.intro (fun q1 => ?_) (fun q1 => ?_) <;> simp only [go_sem, ↓reduceIte, Nat.reduceEqDiff, reduceCtorEq, Nat.reduceAdd, Nat.reduceLeDiff, Nat.reduceMul, h0, h3, h4]
    · have hil : i < l.length := by have := of_decide_eq_true q1; omega
      have hli := hl _ (List.getElem_mem hil)
      obtain ⟨id, p, o, ho, hr, hia⟩ := hv.str (List.getElem?_eq_getElem hil)
      have a88 := fun {m draw u d ts Q} => callT_at (m := m) (draw := draw) (s := u) (d := d) (ts := ts) (Q := Q) (f88 (H := H) (s := l[i]) (by omega))
      have hsz := lsB_size hl (Nat.le_of_lt hil)
      have hB : (lsB l i).size + (l[i]).size ≤ 9223372036854775807 := by omega
      simp only [go_sem, ↓reduceIte, Nat.reduceEqDiff, reduceCtorEq, Nat.reduceAdd, Nat.reduceLeDiff, Nat.reduceMul, h0, h3, h4, hH, hia, ho, hr, a88, hw]
      refine brT.intro (fun q2 => ?_) (fun q2 => ?_) <;> simp only [go_sem, ↓reduceIte, Nat.reduceEqDiff, reduceCtorEq, Nat.reduceAdd, Nat.reduceLeDiff, Nat.reduceMul, h0, h3, h4, hH, hia, ho, hr, hB, wrap64 ((i : Int) + 1) (by omega) (by omega)]
      · refine ⟨hil, by simp, by rw [lsB_succ hil], fun x hx => ?_⟩
        rw [List.take_succ_eq_append_getElem hil] at hx
        rcases List.mem_append.1 hx with hx | hx
        · exact hok x hx
        · rw [List.mem_singleton] at hx
          subst hx
          exact q2
      · rw [listB_no (List.getElem_mem hil) q2]
    · have : i = l.length := by have := of_decide_eq_false q1; omega
      subst this
      rw [List.take_length] at hok
      exact ⟨hH, rfl, hok⟩
  · rintro s ⟨hH, h3, hok⟩
    have hsz := lsB_size hl (Nat.le_refl l.length)
    have a95 := fun {m draw u d ts Q} => callT_at (m := m) (draw := draw) (s := u) (d := d) (ts := ts) (Q := Q) (f95 (H := H) (s := lsB l l.length) (by omega))
    simp only [go_sem, ↓reduceIte, Nat.reduceEqDiff, reduceCtorEq, Nat.reduceAdd, Nat.reduceLeDiff, Nat.reduceMul, h3, hH, a95, hw]
    rw [listB_yes hok h12]

def headB : ByteArray := ⟨#[104, 101, 97, 100]⟩
noncomputable def sealHead (k n : Int) : ByteArray := sealB k (listB [atomB headB, numB n])
theorem listB_size (l : List ByteArray) : (listB l).size ≤ 900 := by
  unfold listB
  split
  · exact okB_size _
  · simp
end Go.Proofs.Ytpdkgbamakileaa.Ev

/- Lines, sealed; the law SealLine. -/
namespace Go.Proofs.Ytpdkgbamakileaa.Ev
set_option linter.all false
open Go
set_option maxRecDepth 4000

theorem chA_get (y : ByteArray) : ((⟨#[97]⟩ : ByteArray) ++ y)[0]? = some 97 := by
  rw [cat_left (by decide)]
  rfl
theorem rest_one (c : UInt8) (y : ByteArray) : rest ((⟨#[c]⟩ : ByteArray) ++ y) 1 = y := by
  unfold rest
  refine ByteArray.ext ?_
  rw [ByteArray.data_extract, ByteArray.data_append, ByteArray.size_append]
  have : (⟨#[c]⟩ : ByteArray).data = #[c] := rfl
  rw [this, Array.extract_append]
  have h1 : (⟨#[c]⟩ : ByteArray).size = 1 := rfl
  have h2 : y.size = y.data.size := rfl
  rw [h1, h2]
  simp

/-- Too long an atom is none. -/
theorem atomB_long {x : ByteArray} (h : 40 < x.size) (h2 : x.size ≤ 562949953421311) : atomB x = ⟨#[]⟩ := by
  unfold atomB okB
  have : tOk (chA ++ varB (x.size : Int) ++ x) = false := by
    cases hT : tOk (chA ++ varB (x.size : Int) ++ x) with
    | false => rfl
    | true =>
      have h8 := (tOk_t.1 hT).2.2
      have e : chA ++ varB (x.size : Int) ++ x = (⟨#[97]⟩ : ByteArray) ++ (varB (x.size : Int) ++ x) := by
        rw [ByteArray.append_assoc]; rfl
      have hp := varL_pos x.size
      rw [e] at h8
      rw [show (8 : Nat) = 7 + 1 from rfl, tmE, tmStep, chA_get, rest_one, read_var h2] at h8
      simp only at h8
      rw [if_neg (by omega), if_pos trivial, if_neg (by omega)] at h8
      cases h8
  rw [this]
  rfl

theorem f56b {H : Hp} {x : ByteArray} (hx : x.size ≤ 1048576) : Scal EE 56 [.string x] H (.string (atomB x)) := by
  by_cases h : x.size ≤ 40
  · exact f56 h
  · refine scal_ok rfl rfl k56 (by simp [c56]) rfl fun m hw => ?_
    have hd : decide ((x.size : Int) > 40) = true := decide_eq_true (by omega)
    simp only [go_sem, ↓reduceIte, Nat.reduceEqDiff, reduceCtorEq, Nat.reduceAdd, Nat.reduceLeDiff, Nat.reduceMul, c56, lenTK, hd]
    rw [atomB_long (by omega) (by omega)]

abbrev Ln := Int × Int × ByteArray
def eLn (z : Ln) : List Value := [.int .i64 z.1, .int .i64 z.2.1, .string z.2.2]
noncomputable def lineP (q : Int) (z : Ln) : List ByteArray := [numB q, numB z.1, numB z.2.1, atomB z.2.2]
noncomputable def sealLine (k q : Int) (z : Ln) : ByteArray := sealB k (listB (lineP q z))
end Go.Proofs.Ytpdkgbamakileaa.Ev

/- The types of the laws' parameters: lines. -/
namespace Go.Proofs.Ytpdkgbamakileaa.Ev
set_option linter.all false
open Go
set_option maxRecDepth 100000
end Go.Proofs.Ytpdkgbamakileaa.Ev

/- Lists of lines and of texts: sizes, copies, comparisons, marks. -/
namespace Go.Proofs.Ytpdkgbamakileaa.Ev
set_option linter.all false
open Go
set_option maxRecDepth 4000

theorem callT_now {E : Env} {m : Md} {f : Nat} {vs : List Value} {P : Value → Hp → Prop} {s : St} {d : Option Nat} {ts : List Tk} {Q : Ex → St → Prop} (h : Fun E m f vs s.H P)
    (hq : ∀ r H', P r H' → go E m ts { s with H := H', ρ := upd s.ρ d (.val r) } Q) : callT E m false f (some vs) s d ts Q := by
  unfold callT opt
  exact h.mono hq

def FreshS {α : Type} (enc : α → List Value) (esz : Nat) (H : Hp) (v : Value) (H' : Hp) (l : List α) : Prop := H <+: H' ∧ Sl (En enc) esz H' v l ∧ OwnS H.length v

end Go.Proofs.Ytpdkgbamakileaa.Ev

/- The types of the laws' parameters: lists of lines. -/
namespace Go.Proofs.Ytpdkgbamakileaa.Ev
set_option linter.all false
open Go
set_option maxRecDepth 100000
end Go.Proofs.Ytpdkgbamakileaa.Ev

/- The types of the laws' parameters: texts and lists of texts. -/
namespace Go.Proofs.Ytpdkgbamakileaa.Ev
set_option linter.all false
open Go
set_option maxRecDepth 100000
end Go.Proofs.Ytpdkgbamakileaa.Ev

/- Code of the program's functions, as the small machine has it: written by mkcode.py. -/
namespace Go.Proofs.Ytpdkgbamakileaa.Ev
set_option linter.all false
open Go
def c6 : CF := ⟨109, (.seq (.reg false [⟨(some 6), .none, (.mov (.c (.bool false))), 0, []⟩]) (.seq (.seq (.reg false [⟨(some 18), .none, (.mov (.t 2)), 0, []⟩, ⟨(some 19), .none, (.lenT (.t 18)), 1, []⟩, ⟨(some 20), .none, (.bin .gtr (.t 19) (.c (.int .i64 1048576))), 2, []⟩]) (.cond (.t 20) (.seq (.reg false [⟨(some 6), .none, (.mov (.c (.bool true))), 0, []⟩]) .ret) .skip)) (.seq (.reg false [⟨(some 7), .none, (.mov (.c (.int .i64 1048576))), 0, []⟩]) (.seq (.reg false [⟨(some 21), .none, (.mov (.t 1)), 0, []⟩, ⟨(some 22), .none, (.mov (.t 7)), 1, []⟩, ⟨(some 23), .none, (.call 26 [(.t 21), (.t 22)]), 2, []⟩, ⟨(some 7), .none, (.mov (.t 23)), 3, []⟩]) (.seq (.seq (.reg false [⟨(some 24), .none, (.mov (.t 7)), 0, []⟩, ⟨(some 25), .none, (.bin .lss (.t 24) (.c (.int .i64 0))), 1, []⟩]) (.cond (.t 25) (.seq (.reg false [⟨(some 6), .none, (.mov (.c (.bool true))), 0, []⟩]) .ret) .skip)) (.seq (.reg false [⟨(some 27), .none, (.mov (.t 0)), 0, []⟩, ⟨(some 28), .none, (.mov (.t 1)), 1, []⟩, ⟨(some 29), .none, (.call 28 [(.t 28)]), 2, []⟩, ⟨(some 30), .none, (.mov (.t 2)), 3, []⟩, ⟨(some 31), .none, (.call 27 [(.t 27), (.t 29), (.t 30)]), 4, []⟩, ⟨(some 26), .none, (.mov (.t 31)), 5, []⟩, ⟨(some 32), .none, (.ext (.t 26) 0), 6, []⟩, ⟨(some 33), .none, (.ext (.t 26) 1), 7, []⟩, ⟨(some 8), .none, (.mov (.t 32)), 8, []⟩, ⟨(some 9), .none, (.mov (.t 33)), 9, []⟩]) (.seq (.reg false [⟨(some 34), .none, (.mov (.t 1)), 0, []⟩, ⟨(some 35), .none, (.call 28 [(.t 34)]), 1, []⟩, ⟨(some 10), .none, (.mov (.t 35)), 2, []⟩]) (.seq (.reg false [⟨(some 37), .none, (.mov (.t 0)), 0, []⟩, ⟨(some 38), .none, (.mov (.t 10)), 1, []⟩, ⟨(some 39), .none, (.mov (.t 2)), 2, []⟩, ⟨(some 40), .none, (.call 29 [(.t 37), (.t 38), (.t 39)]), 3, []⟩, ⟨(some 36), .none, (.mov (.t 40)), 4, []⟩, ⟨(some 41), .none, (.ext (.t 36) 0), 5, []⟩, ⟨(some 42), .none, (.ext (.t 36) 1), 6, []⟩, ⟨(some 11), .none, (.mov (.t 41)), 7, []⟩, ⟨(some 12), .none, (.mov (.t 42)), 8, []⟩]) (.seq (.seq (.reg false [⟨(some 43), .none, (.mov (.t 11)), 0, []⟩, ⟨(some 44), .none, (.mov (.t 8)), 1, []⟩, ⟨(some 45), .none, (.call 22 [(.t 43), (.t 44)]), 2, []⟩, ⟨(some 46), .none, (.un .not (.t 45)), 3, []⟩, ⟨(some 47), .none, (.mov (.t 46)), 4, []⟩, ⟨(some 48), (.some (47, false)), (.mov (.t 12)), 5, []⟩, ⟨(some 49), (.some (47, false)), (.mov (.t 9)), 6, []⟩, ⟨(some 50), (.some (47, false)), (.bin .neq (.t 48) (.t 49)), 7, []⟩, ⟨(some 51), .none, (.pick (.t 47) (.c (.bool true)) (.t 50)), 8, []⟩]) (.cond (.t 51) (.seq (.reg false [⟨(some 6), .none, (.mov (.c (.bool false))), 0, []⟩]) .ret) .skip)) (.seq (.seq (.reg false [⟨(some 52), .none, (.mov (.t 10)), 0, []⟩, ⟨(some 53), .none, (.mov (.t 1)), 1, []⟩, ⟨(some 54), .none, (.call 28 [(.t 53)]), 2, []⟩, ⟨(some 55), .none, (.call 21 [(.t 52), (.t 54)]), 3, []⟩, ⟨(some 56), .none, (.un .not (.t 55)), 4, []⟩]) (.cond (.t 56) (.seq (.reg false [⟨(some 6), .none, (.mov (.c (.bool false))), 0, []⟩]) .ret) .skip)) (.seq (.reg false [⟨(some 13), .none, (.mov (.c (.int .i64 1))), 0, []⟩]) (.seq (.reg false [⟨(some 57), .none, (.mov (.t 10)), 0, []⟩, ⟨(some 58), .none, (.mov (.t 13)), 1, []⟩, ⟨(some 59), .none, (.call 24 [(.t 57), (.t 58)]), 2, []⟩, ⟨(some 13), .none, (.mov (.t 59)), 3, []⟩]) (.seq (.seq (.reg false [⟨(some 60), .none, (.mov (.t 13)), 0, []⟩, ⟨(some 61), .none, (.bin .lss (.t 60) (.c (.int .i64 0))), 1, []⟩, ⟨(some 62), .none, (.mov (.t 61)), 2, []⟩, ⟨(some 63), (.some (62, false)), (.mov (.t 11)), 3, []⟩, ⟨(some 64), (.some (62, false)), (.mov (.t 8)), 4, []⟩, ⟨(some 65), (.some (62, false)), (.call 22 [(.t 63), (.t 64)]), 5, []⟩, ⟨(some 66), (.some (62, false)), (.un .not (.t 65)), 6, []⟩, ⟨(some 67), .none, (.pick (.t 62) (.c (.bool true)) (.t 66)), 7, []⟩, ⟨(some 68), .none, (.mov (.t 67)), 8, []⟩, ⟨(some 69), (.some (68, false)), (.mov (.t 12)), 9, []⟩, ⟨(some 70), (.some (68, false)), (.mov (.t 9)), 10, []⟩, ⟨(some 71), (.some (68, false)), (.bin .neq (.t 69) (.t 70)), 11, []⟩, ⟨(some 72), .none, (.pick (.t 68) (.c (.bool true)) (.t 71)), 12, []⟩]) (.cond (.t 72) (.seq (.reg false [⟨(some 6), .none, (.mov (.c (.bool false))), 0, []⟩]) .ret) .skip)) (.seq (.reg false [⟨(some 14), .none, (.mov (.c (.int .i64 1))), 0, []⟩]) (.seq (.reg false [⟨(some 73), .none, (.mov (.t 11)), 0, []⟩, ⟨(some 74), .none, (.mov (.t 14)), 1, []⟩, ⟨(some 75), .none, (.call 23 [(.t 73), (.t 74)]), 2, []⟩, ⟨(some 14), .none, (.mov (.t 75)), 3, []⟩]) (.seq (.reg false [⟨(some 15), .none, (.mov (.c (.int .i64 1))), 0, []⟩]) (.seq (.reg false [⟨(some 76), .none, (.mov (.t 11)), 0, []⟩, ⟨(some 77), .none, (.mov (.t 15)), 1, []⟩, ⟨(some 78), .none, (.call 30 [(.t 76), (.t 77)]), 2, []⟩, ⟨(some 15), .none, (.mov (.t 78)), 3, []⟩]) (.seq (.seq (.reg false [⟨(some 79), .none, (.mov (.t 15)), 0, []⟩, ⟨(some 80), .none, (.bin .lss (.t 79) (.c (.int .i64 0))), 1, []⟩]) (.cond (.t 80) (.seq (.reg false [⟨(some 6), .none, (.mov (.c (.bool false))), 0, []⟩]) .ret) .skip)) (.seq (.seq (.reg false [⟨(some 81), .none, (.mov (.t 15)), 0, []⟩, ⟨(some 82), .none, (.mov (.t 14)), 1, []⟩, ⟨(some 83), .none, (.bin .neq (.t 81) (.t 82)), 2, []⟩]) (.cond (.t 83) (.seq (.reg false [⟨(some 6), .none, (.mov (.c (.bool false))), 0, []⟩]) .ret) .skip)) (.seq (.reg false [⟨(some 85), .none, (.mov (.t 0)), 0, []⟩, ⟨(some 86), .none, (.mov (.t 1)), 1, []⟩, ⟨(some 87), .none, (.call 28 [(.t 86)]), 2, []⟩, ⟨(some 88), .none, (.mov (.t 2)), 3, []⟩, ⟨(some 89), .none, (.call 29 [(.t 85), (.t 87), (.t 88)]), 4, []⟩, ⟨(some 84), .none, (.mov (.t 89)), 5, []⟩, ⟨(some 90), .none, (.ext (.t 84) 0), 6, []⟩, ⟨(some 91), .none, (.ext (.t 84) 1), 7, []⟩, ⟨(some 16), .none, (.mov (.t 90)), 8, []⟩, ⟨(some 17), .none, (.mov (.t 91)), 9, []⟩]) (.seq (.seq (.reg false [⟨(some 92), .none, (.mov (.t 16)), 0, []⟩, ⟨(some 93), .none, (.mov (.t 8)), 1, []⟩, ⟨(some 94), .none, (.call 22 [(.t 92), (.t 93)]), 2, []⟩, ⟨(some 95), .none, (.un .not (.t 94)), 3, []⟩, ⟨(some 96), .none, (.mov (.t 95)), 4, []⟩, ⟨(some 97), (.some (96, false)), (.mov (.t 17)), 5, []⟩, ⟨(some 98), (.some (96, false)), (.mov (.t 9)), 6, []⟩, ⟨(some 99), (.some (96, false)), (.bin .neq (.t 97) (.t 98)), 7, []⟩, ⟨(some 100), .none, (.pick (.t 96) (.c (.bool true)) (.t 99)), 8, []⟩]) (.cond (.t 100) (.seq (.reg false [⟨(some 6), .none, (.mov (.c (.bool false))), 0, []⟩]) .ret) .skip)) (.seq (.reg false [⟨(some 15), .none, (.mov (.c (.int .i64 1))), 0, []⟩]) (.seq (.reg false [⟨(some 101), .none, (.mov (.t 11)), 0, []⟩, ⟨(some 102), .none, (.mov (.t 15)), 1, []⟩, ⟨(some 103), .none, (.call 30 [(.t 101), (.t 102)]), 2, []⟩, ⟨(some 15), .none, (.mov (.t 103)), 3, []⟩]) (.seq (.seq (.reg false [⟨(some 104), .none, (.mov (.t 15)), 0, []⟩, ⟨(some 105), .none, (.bin .lss (.t 104) (.c (.int .i64 0))), 1, []⟩]) (.cond (.t 105) (.seq (.reg false [⟨(some 6), .none, (.mov (.c (.bool false))), 0, []⟩]) .ret) .skip)) (.seq (.seq (.reg false [⟨(some 106), .none, (.mov (.t 15)), 0, []⟩, ⟨(some 107), .none, (.mov (.t 14)), 1, []⟩, ⟨(some 108), .none, (.bin .neq (.t 106) (.t 107)), 2, []⟩]) (.cond (.t 108) (.seq (.reg false [⟨(some 6), .none, (.mov (.c (.bool false))), 0, []⟩]) .ret) .skip)) (.seq (.reg false [⟨(some 6), .none, (.mov (.c (.bool true))), 0, []⟩]) .ret)))))))))))))))))))))))))), [(.t 6)]⟩
theorem k6 : EE.fns 6 = some c6 := by kernel_rfl
def c28 : CF := ⟨22, (.seq (.reg false [⟨(some 2), .none, (.mov (.c (.slice .none 0 0))), 0, []⟩]) (.seq (.reg false [⟨(some 5), .none, (.mov (.t 0)), 0, []⟩, ⟨(some 6), .none, (.lenS (.t 5)), 1, []⟩, ⟨(some 7), .none, (.makeS 1 16 [(.string ⟨#[]⟩)] (.t 6) (.t 6)), 2, []⟩, ⟨(some 3), .none, (.mov (.t 7)), 3, []⟩]) (.seq (.seq (.reg false [⟨(some 4), .none, (.mov (.c (.int .i64 0))), 0, []⟩]) (.block 0 (.loop (.seq (.seq (.reg false [⟨(some 8), .none, (.mov (.t 4)), 0, []⟩, ⟨(some 9), .none, (.mov (.t 0)), 1, []⟩, ⟨(some 10), .none, (.lenS (.t 9)), 2, []⟩, ⟨(some 11), .none, (.bin .lss (.t 8) (.t 10)), 3, []⟩]) (.cond (.t 11) .skip (.exit 0))) (.seq (.block 1 (.reg false [⟨(some 14), .none, (.mov (.t 3)), 0, []⟩, ⟨(some 15), .none, (.mov (.t 4)), 1, []⟩, ⟨(some 16), .none, (.mov (.t 0)), 2, []⟩, ⟨(some 17), .none, (.mov (.t 4)), 3, []⟩, ⟨(some 18), .none, (.iadr 1 (.t 16) (.t 17)), 4, []⟩, ⟨(some 19), .none, (.load 1 false (.t 18)), 5, []⟩, ⟨(some 20), .none, (.iadr 1 (.t 14) (.t 15)), 6, []⟩, ⟨.none, .none, (.store 1 (.t 20) (.t 19)), 7, []⟩])) (.reg false [⟨(some 12), .none, (.mov (.t 4)), 0, []⟩, ⟨(some 13), .none, (.bin .add (.t 12) (.c (.int .i64 1))), 1, []⟩, ⟨(some 4), .none, (.mov (.t 13)), 2, []⟩])))))) (.seq (.reg false [⟨(some 21), .none, (.mov (.t 3)), 0, []⟩, ⟨(some 2), .none, (.mov (.t 21)), 1, []⟩]) .ret)))), [(.t 2)]⟩
theorem k28 : EE.fns 28 = some c28 := by kernel_rfl
def c29 : CF := ⟨71, (.seq (.reg false [⟨(some 6), .none, (.mov (.c (.slice .none 0 0))), 0, []⟩, ⟨(some 7), .none, (.mov (.c (.int .i64 0))), 1, []⟩]) (.seq (.reg false [⟨(some 16), .none, (.mkO 0 3 [(.int .i64 0), (.int .i64 0), (.string ⟨#[]⟩)] []), 0, []⟩, ⟨(some 8), .none, (.mov (.t 16)), 1, []⟩]) (.seq (.seq (.reg false [⟨(some 17), .none, (.mov (.t 1)), 0, []⟩, ⟨(some 18), .none, (.lenS (.t 17)), 1, []⟩, ⟨(some 19), .none, (.mov (.c (.int .i64 0))), 2, []⟩]) (.block 0 (.loop (.seq (.reg false [⟨(some 20), .none, (.bin .lss (.t 19) (.t 18)), 0, []⟩]) (.seq (.cond (.t 20) .skip (.exit 0)) (.seq (.block 1 (.seq (.reg false [⟨(some 21), .none, (.mov (.t 19)), 0, []⟩, ⟨(some 22), .none, (.iadr 1 (.t 17) (.t 19)), 1, []⟩, ⟨(some 23), .none, (.load 1 false (.t 22)), 2, []⟩, ⟨(some 9), .none, (.mov (.t 21)), 3, []⟩, ⟨(some 10), .none, (.mov (.t 23)), 4, []⟩]) (.seq (.reg false [⟨(some 25), .none, (.mov (.t 0)), 0, []⟩, ⟨(some 26), .none, (.mov (.t 9)), 1, []⟩, ⟨(some 27), .none, (.bin .add (.t 26) (.c (.int .i64 1))), 2, []⟩, ⟨(some 28), .none, (.mov (.t 10)), 3, []⟩, ⟨(some 29), .none, (.call 64 [(.t 25), (.t 27), (.t 28)]), 4, []⟩, ⟨(some 24), .none, (.mov (.t 29)), 5, []⟩, ⟨(some 30), .none, (.ext (.t 24) 0), 6, []⟩, ⟨(some 31), .none, (.ext (.t 24) 1), 7, []⟩, ⟨(some 11), .none, (.newV [(.int .i64 0), (.int .i64 0), (.string ⟨#[]⟩)]), 8, []⟩, ⟨.none, .none, (.store 3 (.t 11) (.t 30)), 9, []⟩, ⟨(some 12), .none, (.mov (.t 31)), 10, []⟩]) (.seq (.seq (.reg true [⟨(some 32), .none, (.mov (.t 12)), 0, []⟩, ⟨(some 33), .none, (.un .not (.t 32)), 1, [0]⟩, ⟨(some 34), .none, (.mov (.t 33)), 2, [1, 0]⟩, ⟨(some 35), (.some (34, false)), (.mov (.t 9)), 3, [2, 1, 0]⟩, ⟨(some 36), (.some (34, false)), (.bin .gtr (.t 35) (.c (.int .i64 0))), 4, [3, 2, 1, 0]⟩, ⟨(some 37), (.some (34, false)), (.mov (.t 36)), 5, [4, 3, 2, 1, 0]⟩, ⟨(some 38), (.some (37, true)), (.mov (.t 8)), 6, [5, 4, 3, 2, 1, 0]⟩, ⟨(some 39), (.some (37, true)), (.mov (.t 9)), 7, [5, 4, 3, 2, 1, 0]⟩, ⟨(some 40), (.some (37, true)), (.bin .sub (.t 39) (.c (.int .i64 1))), 8, [7, 5, 4, 3, 2, 1, 0]⟩, ⟨(some 41), (.some (37, true)), (.iadr 3 (.t 38) (.t 40)), 9, [6, 5, 4, 3, 2, 1, 0, 8, 7]⟩, ⟨(some 42), (.some (37, true)), (.fadr 0 (.t 41)), 10, [9, 6, 5, 4, 3, 2, 1, 0, 8, 7]⟩, ⟨(some 43), (.some (37, true)), (.load 1 false (.t 42)), 11, [10, 9, 6, 5, 4, 3, 2, 1, 0, 8, 7]⟩, ⟨(some 44), (.some (37, true)), (.fadr 0 (.t 11)), 12, [5, 4, 3, 2, 1, 0]⟩, ⟨(some 45), (.some (37, true)), (.load 1 false (.t 44)), 13, [12, 5, 4, 3, 2, 1, 0]⟩, ⟨(some 46), (.some (37, true)), (.bin .gtr (.t 43) (.t 45)), 14, [11, 10, 9, 6, 5, 4, 3, 2, 1, 0, 8, 7, 13, 12]⟩, ⟨(some 47), (.some (34, false)), (.pick (.t 37) (.t 46) (.c (.bool false))), 15, [5, 4, 3, 2, 1, 0, 14, 11, 10, 9, 6, 8, 7, 13, 12]⟩, ⟨(some 48), .none, (.pick (.t 34) (.c (.bool true)) (.t 47)), 16, [2, 1, 0, 15, 5, 4, 3, 14, 11, 10, 9, 6, 8, 7, 13, 12]⟩]) (.cond (.t 48) (.seq (.reg false [⟨(some 49), .none, (.mov (.t 9)), 0, []⟩, ⟨(some 50), .none, (.bin .add (.t 49) (.c (.int .i64 1))), 1, []⟩, ⟨(some 6), .none, (.mov (.c (.slice .none 0 0))), 2, []⟩, ⟨(some 7), .none, (.mov (.t 50)), 3, []⟩]) .ret) .skip)) (.reg false [⟨(some 51), .none, (.mov (.t 8)), 0, []⟩, ⟨(some 52), .none, (.load 3 true (.t 11)), 1, []⟩, ⟨(some 53), .none, (.mkV 1 3 [(.int .i64 0), (.int .i64 0), (.string ⟨#[]⟩)] [(0, (.t 52))]), 2, []⟩, ⟨(some 54), .none, (.app 3 32 (.t 51) (.t 53)), 3, []⟩, ⟨(some 8), .none, (.mov (.t 54)), 4, []⟩]))))) (.reg false [⟨(some 55), .none, (.bin .add (.t 19) (.c (.int .i64 1))), 0, []⟩, ⟨(some 19), .none, (.mov (.t 55)), 1, []⟩]))))))) (.seq (.reg false [⟨(some 57), .none, (.mov (.t 0)), 0, []⟩, ⟨(some 58), .none, (.mov (.t 8)), 1, []⟩, ⟨(some 59), .none, (.call 20 [(.t 57), (.t 58)]), 2, []⟩, ⟨(some 56), .none, (.mov (.t 59)), 3, []⟩, ⟨(some 60), .none, (.ext (.t 56) 0), 4, []⟩, ⟨(some 61), .none, (.ext (.t 56) 1), 5, []⟩, ⟨(some 62), .none, (.ext (.t 56) 2), 6, []⟩, ⟨(some 13), .none, (.mov (.t 60)), 7, []⟩, ⟨(some 14), .none, (.mov (.t 61)), 8, []⟩, ⟨(some 15), .none, (.mov (.t 62)), 9, []⟩]) (.seq (.seq (.reg false [⟨(some 63), .none, (.mov (.t 15)), 0, []⟩, ⟨(some 64), .none, (.un .not (.t 63)), 1, []⟩, ⟨(some 65), .none, (.mov (.t 64)), 2, []⟩, ⟨(some 66), (.some (65, false)), (.mov (.t 14)), 3, []⟩, ⟨(some 67), (.some (65, false)), (.mov (.t 2)), 4, []⟩, ⟨(some 68), (.some (65, false)), (.bin .neq (.t 66) (.t 67)), 5, []⟩, ⟨(some 69), .none, (.pick (.t 65) (.c (.bool true)) (.t 68)), 6, []⟩]) (.cond (.t 69) (.seq (.reg false [⟨(some 6), .none, (.mov (.c (.slice .none 0 0))), 0, []⟩, ⟨(some 7), .none, (.mov (.c (.int .i64 (-1)))), 1, []⟩]) .ret) .skip)) (.seq (.reg false [⟨(some 70), .none, (.mov (.t 8)), 0, []⟩, ⟨(some 6), .none, (.mov (.t 70)), 1, []⟩, ⟨(some 7), .none, (.mov (.c (.int .i64 0))), 2, []⟩]) .ret)))))), [(.t 6), (.t 7)]⟩
theorem k29 : EE.fns 29 = some c29 := by kernel_rfl
def c30 : CF := ⟨41, (.seq (.reg false [⟨(some 4), .none, (.mov (.c (.int .i64 0))), 0, []⟩]) (.seq (.seq (.reg false [⟨(some 5), .none, (.mov (.c (.int .i64 0))), 0, []⟩]) (.block 0 (.loop (.seq (.seq (.reg false [⟨(some 6), .none, (.mov (.t 5)), 0, []⟩, ⟨(some 7), .none, (.mov (.t 0)), 1, []⟩, ⟨(some 8), .none, (.lenS (.t 7)), 2, []⟩, ⟨(some 9), .none, (.bin .lss (.t 6) (.t 8)), 3, []⟩]) (.cond (.t 9) .skip (.exit 0))) (.seq (.block 1 (.seq (.seq (.reg false [⟨(some 12), .none, (.mov (.t 0)), 0, []⟩, ⟨(some 13), .none, (.mov (.t 5)), 1, []⟩, ⟨(some 14), .none, (.iadr 3 (.t 12) (.t 13)), 2, []⟩, ⟨(some 15), .none, (.fadr 0 (.t 14)), 3, []⟩, ⟨(some 16), .none, (.load 1 false (.t 15)), 4, []⟩, ⟨(some 17), .none, (.mov (.t 1)), 5, []⟩, ⟨(some 18), .none, (.bin .neq (.t 16) (.t 17)), 6, []⟩]) (.cond (.t 18) (.seq (.reg false [⟨(some 4), .none, (.mov (.c (.int .i64 (-1)))), 0, []⟩]) .ret) .skip)) (.seq (.reg false [⟨(some 19), .none, (.mov (.t 1)), 0, []⟩, ⟨(some 20), .none, (.bin .add (.t 19) (.c (.int .i64 1))), 1, []⟩, ⟨(some 1), .none, (.mov (.t 20)), 2, []⟩]) (.seq (.seq (.reg false [⟨(some 21), .none, (.mov (.t 0)), 0, []⟩, ⟨(some 22), .none, (.mov (.t 5)), 1, []⟩, ⟨(some 23), .none, (.iadr 3 (.t 21) (.t 22)), 2, []⟩, ⟨(some 24), .none, (.fadr 1 (.t 23)), 3, []⟩, ⟨(some 25), .none, (.load 1 false (.t 24)), 4, []⟩, ⟨(some 26), .none, (.mov (.t 1)), 5, []⟩, ⟨(some 27), .none, (.bin .neq (.t 25) (.t 26)), 6, []⟩]) (.cond (.t 27) (.seq (.reg false [⟨(some 4), .none, (.mov (.c (.int .i64 (-1)))), 0, []⟩]) .ret) .skip)) (.seq (.reg false [⟨(some 28), .none, (.mov (.t 1)), 0, []⟩, ⟨(some 29), .none, (.bin .add (.t 28) (.c (.int .i64 1))), 1, []⟩, ⟨(some 1), .none, (.mov (.t 29)), 2, []⟩]) (.seq (.seq (.reg true [⟨(some 30), .none, (.mov (.t 0)), 0, []⟩, ⟨(some 31), .none, (.mov (.t 5)), 1, []⟩, ⟨(some 32), .none, (.iadr 3 (.t 30) (.t 31)), 2, [0, 1]⟩, ⟨(some 33), .none, (.fadr 2 (.t 32)), 3, [2, 0, 1]⟩, ⟨(some 34), .none, (.load 1 false (.t 33)), 4, [3, 2, 0, 1]⟩, ⟨(some 35), .none, (.mov (.t 1)), 5, []⟩, ⟨(some 36), .none, (.call 62 [(.t 35)]), 6, [5]⟩, ⟨(some 37), .none, (.bin .neq (.t 34) (.t 36)), 7, [4, 3, 2, 0, 1, 6, 5]⟩]) (.cond (.t 37) (.seq (.reg false [⟨(some 4), .none, (.mov (.c (.int .i64 (-1)))), 0, []⟩]) .ret) .skip)) (.reg false [⟨(some 38), .none, (.mov (.t 1)), 0, []⟩, ⟨(some 39), .none, (.bin .add (.t 38) (.c (.int .i64 1))), 1, []⟩, ⟨(some 1), .none, (.mov (.t 39)), 2, []⟩]))))))) (.reg false [⟨(some 10), .none, (.mov (.t 5)), 0, []⟩, ⟨(some 11), .none, (.bin .add (.t 10) (.c (.int .i64 1))), 1, []⟩, ⟨(some 5), .none, (.mov (.t 11)), 2, []⟩])))))) (.seq (.reg false [⟨(some 40), .none, (.mov (.t 1)), 0, []⟩, ⟨(some 4), .none, (.mov (.t 40)), 1, []⟩]) .ret))), [(.t 4)]⟩
theorem k30 : EE.fns 30 = some c30 := by kernel_rfl
def c81 : CF := ⟨33, (.seq (.reg false [⟨(some 2), .none, (.mov (.c (.slice .none 0 0))), 0, []⟩, ⟨(some 3), .none, (.mov (.c (.bool false))), 1, []⟩]) (.seq (.seq (.reg false [⟨(some 8), .none, (.mov (.t 0)), 0, []⟩, ⟨(some 9), .none, (.call 118 [(.t 8), (.c (.int .u8 108))]), 1, []⟩, ⟨(some 10), .none, (.un .not (.t 9)), 2, []⟩]) (.cond (.t 10) (.seq (.reg false [⟨(some 2), .none, (.mov (.c (.slice .none 0 0))), 0, []⟩, ⟨(some 3), .none, (.mov (.c (.bool false))), 1, []⟩]) .ret) .skip)) (.seq (.reg false [⟨(some 12), .none, (.mov (.t 0)), 0, []⟩, ⟨(some 13), .none, (.call 119 [(.t 12), (.c (.int .i64 1))]), 1, []⟩, ⟨(some 11), .none, (.mov (.t 13)), 2, []⟩, ⟨(some 14), .none, (.ext (.t 11) 0), 3, []⟩, ⟨(some 15), .none, (.ext (.t 11) 1), 4, []⟩, ⟨(some 4), .none, (.mov (.t 14)), 5, []⟩, ⟨(some 5), .none, (.mov (.t 15)), 6, []⟩]) (.seq (.reg false [⟨(some 16), .none, (.mkO 0 1 [(.string ⟨#[]⟩)] []), 0, []⟩, ⟨(some 6), .none, (.mov (.t 16)), 1, []⟩]) (.seq (.seq (.reg false [⟨(some 17), .none, (.mov (.t 4)), 0, []⟩, ⟨(some 18), .none, (.mov (.c (.int .i64 0))), 1, []⟩]) (.block 0 (.loop (.seq (.reg false [⟨(some 19), .none, (.bin .lss (.t 18) (.t 17)), 0, []⟩]) (.seq (.cond (.t 19) .skip (.exit 0)) (.seq (.block 1 (.seq (.reg false [⟨(some 20), .none, (.mov (.t 0)), 0, []⟩, ⟨(some 21), .none, (.mov (.t 5)), 1, []⟩, ⟨(some 22), .none, (.call 120 [(.t 20), (.t 21), (.c (.int .i64 8))]), 2, []⟩, ⟨(some 7), .none, (.mov (.t 22)), 3, []⟩]) (.seq (.reg false [⟨(some 23), .none, (.mov (.t 6)), 0, []⟩, ⟨(some 24), .none, (.mov (.t 0)), 1, []⟩, ⟨(some 25), .none, (.mov (.t 5)), 2, []⟩, ⟨(some 26), .none, (.mov (.t 7)), 3, []⟩, ⟨(some 27), .none, (.slcS (.t 24) (.some (.t 25)) (.some (.t 26))), 4, []⟩, ⟨(some 28), .none, (.mkV 1 1 [(.string ⟨#[]⟩)] [(0, (.t 27))]), 5, []⟩, ⟨(some 29), .none, (.app 1 16 (.t 23) (.t 28)), 6, []⟩, ⟨(some 6), .none, (.mov (.t 29)), 7, []⟩]) (.reg false [⟨(some 30), .none, (.mov (.t 7)), 0, []⟩, ⟨(some 5), .none, (.mov (.t 30)), 1, []⟩])))) (.reg false [⟨(some 31), .none, (.bin .add (.t 18) (.c (.int .i64 1))), 0, []⟩, ⟨(some 18), .none, (.mov (.t 31)), 1, []⟩]))))))) (.seq (.reg false [⟨(some 32), .none, (.mov (.t 6)), 0, []⟩, ⟨(some 2), .none, (.mov (.t 32)), 1, []⟩, ⟨(some 3), .none, (.mov (.c (.bool true))), 2, []⟩]) .ret)))))), [(.t 2), (.t 3)]⟩
theorem k81 : EE.fns 81 = some c81 := by kernel_rfl
def c83 : CF := ⟨19, (.seq (.reg false [⟨(some 2), .none, (.mov (.c (.int .i64 0))), 0, []⟩, ⟨(some 3), .none, (.mov (.c (.string ⟨#[]⟩))), 1, []⟩, ⟨(some 4), .none, (.mov (.c (.bool false))), 2, []⟩]) (.seq (.seq (.reg false [⟨(some 7), .none, (.mov (.t 0)), 0, []⟩, ⟨(some 8), .none, (.call 118 [(.t 7), (.c (.int .u8 115))]), 1, []⟩, ⟨(some 9), .none, (.un .not (.t 8)), 2, []⟩]) (.cond (.t 9) (.seq (.reg false [⟨(some 2), .none, (.mov (.c (.int .i64 0))), 0, []⟩, ⟨(some 3), .none, (.mov (.c (.string ⟨#[]⟩))), 1, []⟩, ⟨(some 4), .none, (.mov (.c (.bool false))), 2, []⟩]) .ret) .skip)) (.seq (.reg false [⟨(some 11), .none, (.mov (.t 0)), 0, []⟩, ⟨(some 12), .none, (.call 119 [(.t 11), (.c (.int .i64 1))]), 1, []⟩, ⟨(some 10), .none, (.mov (.t 12)), 2, []⟩, ⟨(some 13), .none, (.ext (.t 10) 0), 3, []⟩, ⟨(some 14), .none, (.ext (.t 10) 1), 4, []⟩, ⟨(some 5), .none, (.mov (.t 13)), 5, []⟩, ⟨(some 6), .none, (.mov (.t 14)), 6, []⟩]) (.seq (.reg true [⟨(some 15), .none, (.mov (.t 5)), 0, []⟩, ⟨(some 16), .none, (.mov (.t 0)), 1, []⟩, ⟨(some 17), .none, (.mov (.t 6)), 2, []⟩, ⟨(some 18), .none, (.slcS (.t 16) (.some (.t 17)) .none), 3, [1, 2]⟩, ⟨(some 2), .none, (.mov (.t 15)), 4, [0]⟩, ⟨(some 3), .none, (.mov (.t 18)), 5, [3, 1, 2, 4, 0]⟩, ⟨(some 4), .none, (.mov (.c (.bool true))), 6, [5, 3, 1, 2, 4, 0]⟩]) .ret)))), [(.t 2), (.t 3), (.t 4)]⟩
theorem k83 : EE.fns 83 = some c83 := by kernel_rfl
def c93 : CF := ⟨53, (.seq (.reg false [⟨(some 2), .none, (.mov (.c (.slice .none 0 0))), 0, []⟩, ⟨(some 3), .none, (.mov (.c (.bool false))), 1, []⟩]) (.seq (.reg false [⟨(some 11), .none, (.mkO 0 1 [(.string ⟨#[]⟩)] []), 0, []⟩, ⟨(some 4), .none, (.mov (.t 11)), 1, []⟩]) (.seq (.seq (.reg false [⟨(some 12), .none, (.mov (.t 0)), 0, []⟩, ⟨(some 13), .none, (.call 88 [(.t 12)]), 1, []⟩, ⟨(some 14), .none, (.un .not (.t 13)), 2, []⟩, ⟨(some 15), .none, (.mov (.t 14)), 3, []⟩, ⟨(some 16), (.some (15, false)), (.mov (.t 0)), 4, []⟩, ⟨(some 17), (.some (15, false)), (.idx (.t 16) (.c (.int .i64 0))), 5, []⟩, ⟨(some 18), (.some (15, false)), (.bin .neq (.t 17) (.c (.int .u8 108))), 6, []⟩, ⟨(some 19), .none, (.pick (.t 15) (.c (.bool true)) (.t 18)), 7, []⟩]) (.cond (.t 19) (.seq (.reg false [⟨(some 20), .none, (.mov (.t 4)), 0, []⟩, ⟨(some 2), .none, (.mov (.t 20)), 1, []⟩, ⟨(some 3), .none, (.mov (.c (.bool false))), 2, []⟩]) .ret) .skip)) (.seq (.reg false [⟨(some 22), .none, (.mov (.t 0)), 0, []⟩, ⟨(some 23), .none, (.slcS (.t 22) (.some (.c (.int .i64 1))) .none), 1, []⟩, ⟨(some 24), .none, (.call 127 [(.t 23)]), 2, []⟩, ⟨(some 21), .none, (.mov (.t 24)), 3, []⟩, ⟨(some 25), .none, (.ext (.t 21) 0), 4, []⟩, ⟨(some 26), .none, (.ext (.t 21) 1), 5, []⟩, ⟨(some 5), .none, (.mov (.t 25)), 6, []⟩, ⟨(some 6), .none, (.mov (.t 26)), 7, []⟩]) (.seq (.reg false [⟨(some 27), .none, (.mov (.t 6)), 0, []⟩, ⟨(some 28), .none, (.bin .add (.c (.int .i64 1)) (.t 27)), 1, []⟩, ⟨(some 7), .none, (.mov (.t 28)), 2, []⟩]) (.seq (.seq (.reg false [⟨(some 8), .none, (.mov (.c (.int .i64 0))), 0, []⟩]) (.block 0 (.loop (.seq (.seq (.reg false [⟨(some 29), .none, (.mov (.t 8)), 0, []⟩, ⟨(some 30), .none, (.mov (.t 5)), 1, []⟩, ⟨(some 31), .none, (.bin .lss (.t 29) (.t 30)), 2, []⟩]) (.cond (.t 31) .skip (.exit 0))) (.seq (.block 1 (.seq (.reg false [⟨(some 35), .none, (.mov (.t 0)), 0, []⟩, ⟨(some 36), .none, (.mov (.t 7)), 1, []⟩, ⟨(some 37), .none, (.call 126 [(.t 35), (.t 36), (.c (.int .i64 8))]), 2, []⟩, ⟨(some 34), .none, (.mov (.t 37)), 3, []⟩, ⟨(some 38), .none, (.ext (.t 34) 0), 4, []⟩, ⟨(some 39), .none, (.ext (.t 34) 1), 5, []⟩, ⟨(some 9), .none, (.mov (.t 38)), 6, []⟩, ⟨(some 10), .none, (.mov (.t 39)), 7, []⟩]) (.seq (.reg false [⟨(some 40), .none, (.mov (.t 4)), 0, []⟩, ⟨(some 41), .none, (.mov (.t 0)), 1, []⟩, ⟨(some 42), .none, (.mov (.t 7)), 2, []⟩, ⟨(some 43), .none, (.mov (.t 7)), 3, []⟩, ⟨(some 44), .none, (.mov (.t 9)), 4, []⟩, ⟨(some 45), .none, (.bin .add (.t 43) (.t 44)), 5, []⟩, ⟨(some 46), .none, (.slcS (.t 41) (.some (.t 42)) (.some (.t 45))), 6, []⟩, ⟨(some 47), .none, (.mkV 1 1 [(.string ⟨#[]⟩)] [(0, (.t 46))]), 7, []⟩, ⟨(some 48), .none, (.app 1 16 (.t 40) (.t 47)), 8, []⟩, ⟨(some 4), .none, (.mov (.t 48)), 9, []⟩]) (.reg false [⟨(some 49), .none, (.mov (.t 7)), 0, []⟩, ⟨(some 50), .none, (.mov (.t 9)), 1, []⟩, ⟨(some 51), .none, (.bin .add (.t 49) (.t 50)), 2, []⟩, ⟨(some 7), .none, (.mov (.t 51)), 3, []⟩])))) (.reg false [⟨(some 32), .none, (.mov (.t 8)), 0, []⟩, ⟨(some 33), .none, (.bin .add (.t 32) (.c (.int .i64 1))), 1, []⟩, ⟨(some 8), .none, (.mov (.t 33)), 2, []⟩])))))) (.seq (.reg false [⟨(some 52), .none, (.mov (.t 4)), 0, []⟩, ⟨(some 2), .none, (.mov (.t 52)), 1, []⟩, ⟨(some 3), .none, (.mov (.c (.bool true))), 2, []⟩]) .ret))))))), [(.t 2), (.t 3)]⟩
theorem k93 : EE.fns 93 = some c93 := by kernel_rfl
def c100 : CF := ⟨29, (.seq (.reg false [⟨(some 4), .none, (.mov (.c (.string ⟨#[]⟩))), 0, []⟩, ⟨(some 5), .none, (.mov (.c (.bool false))), 1, []⟩]) (.seq (.seq (.reg false [⟨(some 8), .none, (.mov (.t 0)), 0, []⟩, ⟨(some 9), .none, (.call 88 [(.t 8)]), 1, []⟩, ⟨(some 10), .none, (.un .not (.t 9)), 2, []⟩, ⟨(some 11), .none, (.mov (.t 10)), 3, []⟩, ⟨(some 12), (.some (11, false)), (.mov (.t 0)), 4, []⟩, ⟨(some 13), (.some (11, false)), (.idx (.t 12) (.c (.int .i64 0))), 5, []⟩, ⟨(some 14), (.some (11, false)), (.bin .neq (.t 13) (.c (.int .u8 115))), 6, []⟩, ⟨(some 15), .none, (.pick (.t 11) (.c (.bool true)) (.t 14)), 7, []⟩]) (.cond (.t 15) (.seq (.reg false [⟨(some 4), .none, (.mov (.c (.string ⟨#[]⟩))), 0, []⟩, ⟨(some 5), .none, (.mov (.c (.bool false))), 1, []⟩]) .ret) .skip)) (.seq (.reg false [⟨(some 17), .none, (.mov (.t 0)), 0, []⟩, ⟨(some 18), .none, (.slcS (.t 17) (.some (.c (.int .i64 1))) .none), 1, []⟩, ⟨(some 19), .none, (.call 127 [(.t 18)]), 2, []⟩, ⟨(some 16), .none, (.mov (.t 19)), 3, []⟩, ⟨(some 20), .none, (.ext (.t 16) 0), 4, []⟩, ⟨(some 21), .none, (.ext (.t 16) 1), 5, []⟩, ⟨(some 6), .none, (.mov (.t 20)), 6, []⟩, ⟨(some 7), .none, (.mov (.t 21)), 7, []⟩]) (.seq (.seq (.reg false [⟨(some 22), .none, (.mov (.t 6)), 0, []⟩, ⟨(some 23), .none, (.mov (.t 1)), 1, []⟩, ⟨(some 24), .none, (.bin .neq (.t 22) (.t 23)), 2, []⟩]) (.cond (.t 24) (.seq (.reg false [⟨(some 4), .none, (.mov (.c (.string ⟨#[]⟩))), 0, []⟩, ⟨(some 5), .none, (.mov (.c (.bool false))), 1, []⟩]) .ret) .skip)) (.seq (.reg false [⟨(some 25), .none, (.mov (.t 0)), 0, []⟩, ⟨(some 26), .none, (.mov (.t 7)), 1, []⟩, ⟨(some 27), .none, (.bin .add (.c (.int .i64 1)) (.t 26)), 2, []⟩, ⟨(some 28), .none, (.slcS (.t 25) (.some (.t 27)) .none), 3, []⟩, ⟨(some 4), .none, (.mov (.t 28)), 4, []⟩, ⟨(some 5), .none, (.mov (.c (.bool true))), 5, []⟩]) .ret))))), [(.t 4), (.t 5)]⟩
theorem k100 : EE.fns 100 = some c100 := by kernel_rfl
def c118 : CF := ⟨13, (.seq (.reg false [⟨(some 4), .none, (.mov (.c (.bool false))), 0, []⟩]) (.seq (.reg false [⟨(some 5), .none, (.mov (.t 0)), 0, []⟩, ⟨(some 6), .none, (.call 96 [(.t 5)]), 1, []⟩, ⟨(some 7), .none, (.mov (.t 6)), 2, []⟩, ⟨(some 8), (.some (7, true)), (.mov (.t 0)), 3, []⟩, ⟨(some 9), (.some (7, true)), (.idx (.t 8) (.c (.int .i64 0))), 4, []⟩, ⟨(some 10), (.some (7, true)), (.mov (.t 1)), 5, []⟩, ⟨(some 11), (.some (7, true)), (.bin .eql (.t 9) (.t 10)), 6, []⟩, ⟨(some 12), .none, (.pick (.t 7) (.t 11) (.c (.bool false))), 7, []⟩, ⟨(some 4), .none, (.mov (.t 12)), 8, []⟩]) .ret)), [(.t 4)]⟩
theorem k118 : EE.fns 118 = some c118 := by kernel_rfl
end Go.Proofs.Ytpdkgbamakileaa.Ev
