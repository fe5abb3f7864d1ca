/- Texts of this proof, laid one behind the other: what each shows stands at its head. -/
import Derived.Test.YtjepmnmakemfoaaB3
/- Numbers as bytes: the program's and the reference's. -/
namespace Go.Proofs.Ytjepmnmakemfoaa.Ev
set_option linter.all false
open Go
set_option maxRecDepth 4000

theorem f52 {H : Hp} {a b c : Int} : Scal EE 52 [.int .i64 a, .int .i64 b, .int .i64 c] H (.bool (decide (a ≥ b) && decide (a ≤ c))) := by
  refine scal_ok rfl rfl k52 (by simp [c52]) rfl fun m hw => ?_
  simp only [go_nil, go_blk, go_skip, go_ret, go_exit, go_seq, go_block, go_reg, go_r0, go_r, go_d0, go_d, go_e0, go_e, box2, Option.isSome_some, Nat.le_refl, go_cond, go_o, go_g, aft_some, cnd_bool, grd_bool, grd_tup, brT_true, brT_false, brT_not, thr_exit, thr_c, thr_nil, stp, stepK, movK, mv1, ex, exv, exvs, upd_some, upd_none, ini, St.val, binK, binV, ofV, pickK, unK, unV, beqK, beq_true, beq_false, if_true, if_false, List.getElem?_cons_zero, List.getElem?_cons_succ, ↓reduceIte, Nat.reduceEqDiff, reduceCtorEq, loadK, adr, deref, Ad.fv, Ad.live, fadrK, List.length_cons, List.length_nil, List.drop_zero, List.drop_succ_cons, List.take_succ_cons, List.take_zero, Nat.reduceAdd, Nat.reduceLeDiff, Nat.zero_add, Nat.add_zero, aeqK, agEq, scEq, boxVK, newVK, exc, vc_agg, vc_int, vc_bool, vc_str, vc_ptr, vc_sl, vc_fn, boxOf, adInf, List.reverse_cons, List.reverse_nil, List.nil_append, List.cons_append, extK, Bool.and_true, Bool.true_and, Bool.not_true, Bool.not_false, resT, resVs, resV, true_and, and_true, storeK, spl_nil, spl_z, spl_1, spl_2, spl_3, spl_4, spl_5, spl_6, spl_7, spl_8, scal_int, scal_bool, scal_str, scal_nil, implies_true, Bool.and_self, Post_ret, Post_normal, PostS_ret, PostS_normal, retT_true, retT_false, flat_bool, flat_int, flat_str, List.take_length, decide_true, decide_false, Option.some.injEq, Value.bool.injEq, Value.int.injEq, Bool.false_and, Bool.and_false, not_false_eq_true, not_true_eq_false, toIntK, List.length_set, Nat.reduceMul, Bool.not_eq_true, Bool.not_eq_false, List.all_cons, List.all_nil, exps, fillL, buildK, strK, nilcK, fnK, callVT, List.size_toArray, List.append_nil, List.singleton_append, boxOK, newOK, scal_nil, List.isEmpty_nil, List.isEmpty_cons, mkVK, mkOK, mkCells, zeros_0, zeros_1, zeros_2, zeros_3, zeros_4, List.map_cons, List.map_nil, c52]
  refine brT.intro (fun h => ?_) (fun h => ?_) <;> simp only [go_nil, go_blk, go_skip, go_ret, go_exit, go_seq, go_block, go_reg, go_r0, go_r, go_d0, go_d, go_e0, go_e, box2, Option.isSome_some, Nat.le_refl, go_cond, go_o, go_g, aft_some, cnd_bool, grd_bool, grd_tup, brT_true, brT_false, brT_not, thr_exit, thr_c, thr_nil, stp, stepK, movK, mv1, ex, exv, exvs, upd_some, upd_none, ini, St.val, binK, binV, ofV, pickK, unK, unV, beqK, beq_true, beq_false, if_true, if_false, List.getElem?_cons_zero, List.getElem?_cons_succ, ↓reduceIte, Nat.reduceEqDiff, reduceCtorEq, loadK, adr, deref, Ad.fv, Ad.live, fadrK, List.length_cons, List.length_nil, List.drop_zero, List.drop_succ_cons, List.take_succ_cons, List.take_zero, Nat.reduceAdd, Nat.reduceLeDiff, Nat.zero_add, Nat.add_zero, aeqK, agEq, scEq, boxVK, newVK, exc, vc_agg, vc_int, vc_bool, vc_str, vc_ptr, vc_sl, vc_fn, boxOf, adInf, List.reverse_cons, List.reverse_nil, List.nil_append, List.cons_append, extK, Bool.and_true, Bool.true_and, Bool.not_true, Bool.not_false, resT, resVs, resV, true_and, and_true, storeK, spl_nil, spl_z, spl_1, spl_2, spl_3, spl_4, spl_5, spl_6, spl_7, spl_8, scal_int, scal_bool, scal_str, scal_nil, implies_true, Bool.and_self, Post_ret, Post_normal, PostS_ret, PostS_normal, retT_true, retT_false, flat_bool, flat_int, flat_str, List.take_length, decide_true, decide_false, Option.some.injEq, Value.bool.injEq, Value.int.injEq, Bool.false_and, Bool.and_false, not_false_eq_true, not_true_eq_false, toIntK, List.length_set, Nat.reduceMul, Bool.not_eq_true, Bool.not_eq_false, List.all_cons, List.all_nil, exps, fillL, buildK, strK, nilcK, fnK, callVT, List.size_toArray, List.append_nil, List.singleton_append, boxOK, newOK, scal_nil, List.isEmpty_nil, List.isEmpty_cons, mkVK, mkOK, mkCells, zeros_0, zeros_1, zeros_2, zeros_3, zeros_4, List.map_cons, List.map_nil, h]
theorem c52' {m : Md} {draw : Bool} {s : St} {d : Option Nat} {ts : List Tk} {Q : Ex → St → Prop} {a b c : Int} (hw : Wr m s.H) :
    callT EE m draw 52 (some [.int .i64 a, .int .i64 b, .int .i64 c]) s d ts Q = go EE m ts { s with ρ := upd s.ρ d (.val (.bool (decide (a ≥ b) && decide (a ≤ c)))) } Q := callT_at f52 rfl hw
theorem f55 {H : Hp} {a b c : Int} : Scal EE 55 [.int .i64 a, .int .i64 b, .int .i64 c] H (.bool (decide (a ≥ b) && decide (a ≤ c))) := by
  refine scal_ok rfl rfl k55 (by simp [c55]) rfl fun m hw => ?_
  simp only [go_nil, go_blk, go_skip, go_ret, go_exit, go_seq, go_block, go_reg, go_r0, go_r, go_d0, go_d, go_e0, go_e, box2, Option.isSome_some, Nat.le_refl, go_cond, go_o, go_g, aft_some, cnd_bool, grd_bool, grd_tup, brT_true, brT_false, brT_not, thr_exit, thr_c, thr_nil, stp, stepK, movK, mv1, ex, exv, exvs, upd_some, upd_none, ini, St.val, binK, binV, ofV, pickK, unK, unV, beqK, beq_true, beq_false, if_true, if_false, List.getElem?_cons_zero, List.getElem?_cons_succ, ↓reduceIte, Nat.reduceEqDiff, reduceCtorEq, loadK, adr, deref, Ad.fv, Ad.live, fadrK, List.length_cons, List.length_nil, List.drop_zero, List.drop_succ_cons, List.take_succ_cons, List.take_zero, Nat.reduceAdd, Nat.reduceLeDiff, Nat.zero_add, Nat.add_zero, aeqK, agEq, scEq, boxVK, newVK, exc, vc_agg, vc_int, vc_bool, vc_str, vc_ptr, vc_sl, vc_fn, boxOf, adInf, List.reverse_cons, List.reverse_nil, List.nil_append, List.cons_append, extK, Bool.and_true, Bool.true_and, Bool.not_true, Bool.not_false, resT, resVs, resV, true_and, and_true, storeK, spl_nil, spl_z, spl_1, spl_2, spl_3, spl_4, spl_5, spl_6, spl_7, spl_8, scal_int, scal_bool, scal_str, scal_nil, implies_true, Bool.and_self, Post_ret, Post_normal, PostS_ret, PostS_normal, retT_true, retT_false, flat_bool, flat_int, flat_str, List.take_length, decide_true, decide_false, Option.some.injEq, Value.bool.injEq, Value.int.injEq, Bool.false_and, Bool.and_false, not_false_eq_true, not_true_eq_false, toIntK, List.length_set, Nat.reduceMul, Bool.not_eq_true, Bool.not_eq_false, List.all_cons, List.all_nil, exps, fillL, buildK, strK, nilcK, fnK, callVT, List.size_toArray, List.append_nil, List.singleton_append, boxOK, newOK, scal_nil, List.isEmpty_nil, List.isEmpty_cons, mkVK, mkOK, mkCells, zeros_0, zeros_1, zeros_2, zeros_3, zeros_4, List.map_cons, List.map_nil, c55]
  refine brT.intro (fun h => ?_) (fun h => ?_) <;> simp only [go_nil, go_blk, go_skip, go_ret, go_exit, go_seq, go_block, go_reg, go_r0, go_r, go_d0, go_d, go_e0, go_e, box2, Option.isSome_some, Nat.le_refl, go_cond, go_o, go_g, aft_some, cnd_bool, grd_bool, grd_tup, brT_true, brT_false, brT_not, thr_exit, thr_c, thr_nil, stp, stepK, movK, mv1, ex, exv, exvs, upd_some, upd_none, ini, St.val, binK, binV, ofV, pickK, unK, unV, beqK, beq_true, beq_false, if_true, if_false, List.getElem?_cons_zero, List.getElem?_cons_succ, ↓reduceIte, Nat.reduceEqDiff, reduceCtorEq, loadK, adr, deref, Ad.fv, Ad.live, fadrK, List.length_cons, List.length_nil, List.drop_zero, List.drop_succ_cons, List.take_succ_cons, List.take_zero, Nat.reduceAdd, Nat.reduceLeDiff, Nat.zero_add, Nat.add_zero, aeqK, agEq, scEq, boxVK, newVK, exc, vc_agg, vc_int, vc_bool, vc_str, vc_ptr, vc_sl, vc_fn, boxOf, adInf, List.reverse_cons, List.reverse_nil, List.nil_append, List.cons_append, extK, Bool.and_true, Bool.true_and, Bool.not_true, Bool.not_false, resT, resVs, resV, true_and, and_true, storeK, spl_nil, spl_z, spl_1, spl_2, spl_3, spl_4, spl_5, spl_6, spl_7, spl_8, scal_int, scal_bool, scal_str, scal_nil, implies_true, Bool.and_self, Post_ret, Post_normal, PostS_ret, PostS_normal, retT_true, retT_false, flat_bool, flat_int, flat_str, List.take_length, decide_true, decide_false, Option.some.injEq, Value.bool.injEq, Value.int.injEq, Bool.false_and, Bool.and_false, not_false_eq_true, not_true_eq_false, toIntK, List.length_set, Nat.reduceMul, Bool.not_eq_true, Bool.not_eq_false, List.all_cons, List.all_nil, exps, fillL, buildK, strK, nilcK, fnK, callVT, List.size_toArray, List.append_nil, List.singleton_append, boxOK, newOK, scal_nil, List.isEmpty_nil, List.isEmpty_cons, mkVK, mkOK, mkCells, zeros_0, zeros_1, zeros_2, zeros_3, zeros_4, List.map_cons, List.map_nil, h]
theorem c55' {m : Md} {draw : Bool} {s : St} {d : Option Nat} {ts : List Tk} {Q : Ex → St → Prop} {a b c : Int} (hw : Wr m s.H) :
    callT EE m draw 55 (some [.int .i64 a, .int .i64 b, .int .i64 c]) s d ts Q = go EE m ts { s with ρ := upd s.ρ d (.val (.bool (decide (a ≥ b) && decide (a ≤ c)))) } Q := callT_at f55 rfl hw

theorem varB_in {n : Int} (h : (decide (n ≥ 0) && decide (n ≤ 562949953421311)) = true) : 0 ≤ n ∧ n ≤ 562949953421311 := by simpa using h
theorem varB_out {n : Int} (h : (decide (n ≥ 0) && decide (n ≤ 562949953421311)) = false) : varB n = ⟨#[]⟩ := by
  unfold varB
  rw [if_neg (fun h2 => by simp at h; omega)]
  rfl
theorem ne128 : ¬ ((128 : Int) = 0) := by decide

theorem f59 {H : Hp} {n : Int} : Scal EE 59 [.int .i64 n] H (.string (varB n)) := by
  refine scal_ok rfl rfl k59 (by simp [c59]) rfl fun m hw => ?_
  simp only [go_nil, go_blk, go_skip, go_ret, go_exit, go_seq, go_block, go_reg, go_r0, go_r, go_d0, go_d, go_e0, go_e, box2, Option.isSome_some, Nat.le_refl, go_cond, go_o, go_g, aft_some, cnd_bool, grd_bool, grd_tup, brT_true, brT_false, brT_not, thr_exit, thr_c, thr_nil, stp, stepK, movK, mv1, ex, exv, exvs, upd_some, upd_none, ini, St.val, binK, binV, ofV, pickK, unK, unV, beqK, beq_true, beq_false, if_true, if_false, List.getElem?_cons_zero, List.getElem?_cons_succ, ↓reduceIte, Nat.reduceEqDiff, reduceCtorEq, loadK, adr, deref, Ad.fv, Ad.live, fadrK, List.length_cons, List.length_nil, List.drop_zero, List.drop_succ_cons, List.take_succ_cons, List.take_zero, Nat.reduceAdd, Nat.reduceLeDiff, Nat.zero_add, Nat.add_zero, aeqK, agEq, scEq, boxVK, newVK, exc, vc_agg, vc_int, vc_bool, vc_str, vc_ptr, vc_sl, vc_fn, boxOf, adInf, List.reverse_cons, List.reverse_nil, List.nil_append, List.cons_append, extK, Bool.and_true, Bool.true_and, Bool.not_true, Bool.not_false, resT, resVs, resV, true_and, and_true, storeK, spl_nil, spl_z, spl_1, spl_2, spl_3, spl_4, spl_5, spl_6, spl_7, spl_8, scal_int, scal_bool, scal_str, scal_nil, implies_true, Bool.and_self, Post_ret, Post_normal, PostS_ret, PostS_normal, retT_true, retT_false, flat_bool, flat_int, flat_str, List.take_length, decide_true, decide_false, Option.some.injEq, Value.bool.injEq, Value.int.injEq, Bool.false_and, Bool.and_false, not_false_eq_true, not_true_eq_false, toIntK, List.length_set, Nat.reduceMul, Bool.not_eq_true, Bool.not_eq_false, List.all_cons, List.all_nil, exps, fillL, buildK, strK, nilcK, fnK, callVT, List.size_toArray, List.append_nil, List.singleton_append, boxOK, newOK, scal_nil, List.isEmpty_nil, List.isEmpty_cons, mkVK, mkOK, mkCells, zeros_0, zeros_1, zeros_2, zeros_3, zeros_4, List.map_cons, List.map_nil, c59, c52', hw, fillL]
  refine brT.intro (fun h => ?_) (fun h => ?_) <;> simp only [go_nil, go_blk, go_skip, go_ret, go_exit, go_seq, go_block, go_reg, go_r0, go_r, go_d0, go_d, go_e0, go_e, box2, Option.isSome_some, Nat.le_refl, go_cond, go_o, go_g, aft_some, cnd_bool, grd_bool, grd_tup, brT_true, brT_false, brT_not, thr_exit, thr_c, thr_nil, stp, stepK, movK, mv1, ex, exv, exvs, upd_some, upd_none, ini, St.val, binK, binV, ofV, pickK, unK, unV, beqK, beq_true, beq_false, if_true, if_false, List.getElem?_cons_zero, List.getElem?_cons_succ, ↓reduceIte, Nat.reduceEqDiff, reduceCtorEq, loadK, adr, deref, Ad.fv, Ad.live, fadrK, List.length_cons, List.length_nil, List.drop_zero, List.drop_succ_cons, List.take_succ_cons, List.take_zero, Nat.reduceAdd, Nat.reduceLeDiff, Nat.zero_add, Nat.add_zero, aeqK, agEq, scEq, boxVK, newVK, exc, vc_agg, vc_int, vc_bool, vc_str, vc_ptr, vc_sl, vc_fn, boxOf, adInf, List.reverse_cons, List.reverse_nil, List.nil_append, List.cons_append, extK, Bool.and_true, Bool.true_and, Bool.not_true, Bool.not_false, resT, resVs, resV, true_and, and_true, storeK, spl_nil, spl_z, spl_1, spl_2, spl_3, spl_4, spl_5, spl_6, spl_7, spl_8, scal_int, scal_bool, scal_str, scal_nil, implies_true, Bool.and_self, Post_ret, Post_normal, PostS_ret, PostS_normal, retT_true, retT_false, flat_bool, flat_int, flat_str, List.take_length, decide_true, decide_false, Option.some.injEq, Value.bool.injEq, Value.int.injEq, Bool.false_and, Bool.and_false, not_false_eq_true, not_true_eq_false, toIntK, List.length_set, Nat.reduceMul, Bool.not_eq_true, Bool.not_eq_false, List.all_cons, List.all_nil, exps, fillL, buildK, strK, nilcK, fnK, callVT, List.size_toArray, List.append_nil, List.singleton_append, boxOK, newOK, scal_nil, List.isEmpty_nil, List.isEmpty_cons, mkVK, mkOK, mkCells, zeros_0, zeros_1, zeros_2, zeros_3, zeros_4, List.map_cons, List.map_nil, fillL]
  rotate_left
  · rw [varB_out h]
  obtain ⟨h0, h1⟩ := varB_in h
  obtain ⟨k, rfl⟩ : ∃ k : Nat, n = k := ⟨n.toNat, by omega⟩
  have hV : varB (k : Int) = strOf (varL k) := by unfold varB; rw [if_pos ⟨h0, h1⟩]; rfl
  have h7 : (128 : Nat) ^ (6 + 1) = 562949953421312 := by decide
  have hlen := varL_len 6 k (by omega)
  rw [hV]
  refine go_loop (fun j s => H <+: s.H ∧ s.ρ 0 = .val (.int .i64 j) ∧ j ≤ k ∧ ∃ wv l, s.ρ 3 = .val wv ∧ SlN s.H wv l ∧ OwnS H.length wv ∧ l ++ varL j = varL k)
    (fun s => H <+: s.H ∧ ∃ (j : Nat) (wv : Value) (l : List Nat), s.ρ 0 = .val (.int .i64 j) ∧ j < 128 ∧ s.ρ 3 = .val wv ∧ SlN s.H wv l ∧ OwnS H.length wv ∧ l ++ [j] = varL k) k ?_ ?_ ?_
  · exact ⟨List.prefix_append _ _, by simp [upd, ini], Nat.le_refl _, _, [], by simp [upd], own_newN, .inr ⟨_, _, _, _, rfl, Nat.le_refl _⟩, rfl⟩
  · rintro j s ⟨hH, h0', hj, wv, l, h3, hs, ho, hl⟩
    simp only [go_nil, go_blk, go_skip, go_ret, go_exit, go_seq, go_block, go_reg, go_r0, go_r, go_d0, go_d, go_e0, go_e, box2, Option.isSome_some, Nat.le_refl, go_cond, go_o, go_g, aft_some, cnd_bool, grd_bool, grd_tup, brT_true, brT_false, brT_not, thr_exit, thr_c, thr_nil, stp, stepK, movK, mv1, ex, exv, exvs, upd_some, upd_none, ini, St.val, binK, binV, ofV, pickK, unK, unV, beqK, beq_true, beq_false, if_true, if_false, List.getElem?_cons_zero, List.getElem?_cons_succ, ↓reduceIte, Nat.reduceEqDiff, reduceCtorEq, loadK, adr, deref, Ad.fv, Ad.live, fadrK, List.length_cons, List.length_nil, List.drop_zero, List.drop_succ_cons, List.take_succ_cons, List.take_zero, Nat.reduceAdd, Nat.reduceLeDiff, Nat.zero_add, Nat.add_zero, aeqK, agEq, scEq, boxVK, newVK, exc, vc_agg, vc_int, vc_bool, vc_str, vc_ptr, vc_sl, vc_fn, boxOf, adInf, List.reverse_cons, List.reverse_nil, List.nil_append, List.cons_append, extK, Bool.and_true, Bool.true_and, Bool.not_true, Bool.not_false, resT, resVs, resV, true_and, and_true, storeK, spl_nil, spl_z, spl_1, spl_2, spl_3, spl_4, spl_5, spl_6, spl_7, spl_8, scal_int, scal_bool, scal_str, scal_nil, implies_true, Bool.and_self, Post_ret, Post_normal, PostS_ret, PostS_normal, retT_true, retT_false, flat_bool, flat_int, flat_str, List.take_length, decide_true, decide_false, Option.some.injEq, Value.bool.injEq, Value.int.injEq, Bool.false_and, Bool.and_false, not_false_eq_true, not_true_eq_false, toIntK, List.length_set, Nat.reduceMul, Bool.not_eq_true, Bool.not_eq_false, List.all_cons, List.all_nil, exps, fillL, buildK, strK, nilcK, fnK, callVT, List.size_toArray, List.append_nil, List.singleton_append, boxOK, newOK, scal_nil, List.isEmpty_nil, List.isEmpty_cons, mkVK, mkOK, mkCells, zeros_0, zeros_1, zeros_2, zeros_3, zeros_4, List.map_cons, List.map_nil, h0', h3]
    refine brT.intro (fun q1 => ?_) (fun q1 => ?_) <;> simp only [go_nil, go_blk, go_skip, go_ret, go_exit, go_seq, go_block, go_reg, go_r0, go_r, go_d0, go_d, go_e0, go_e, box2, Option.isSome_some, Nat.le_refl, go_cond, go_o, go_g, aft_some, cnd_bool, grd_bool, grd_tup, brT_true, brT_false, brT_not, thr_exit, thr_c, thr_nil, stp, stepK, movK, mv1, ex, exv, exvs, upd_some, upd_none, ini, St.val, binK, binV, ofV, pickK, unK, unV, beqK, beq_true, beq_false, if_true, if_false, List.getElem?_cons_zero, List.getElem?_cons_succ, ↓reduceIte, Nat.reduceEqDiff, reduceCtorEq, loadK, adr, deref, Ad.fv, Ad.live, fadrK, List.length_cons, List.length_nil, List.drop_zero, List.drop_succ_cons, List.take_succ_cons, List.take_zero, Nat.reduceAdd, Nat.reduceLeDiff, Nat.zero_add, Nat.add_zero, aeqK, agEq, scEq, boxVK, newVK, exc, vc_agg, vc_int, vc_bool, vc_str, vc_ptr, vc_sl, vc_fn, boxOf, adInf, List.reverse_cons, List.reverse_nil, List.nil_append, List.cons_append, extK, Bool.and_true, Bool.true_and, Bool.not_true, Bool.not_false, resT, resVs, resV, true_and, and_true, storeK, spl_nil, spl_z, spl_1, spl_2, spl_3, spl_4, spl_5, spl_6, spl_7, spl_8, scal_int, scal_bool, scal_str, scal_nil, implies_true, Bool.and_self, Post_ret, Post_normal, PostS_ret, PostS_normal, retT_true, retT_false, flat_bool, flat_int, flat_str, List.take_length, decide_true, decide_false, Option.some.injEq, Value.bool.injEq, Value.int.injEq, Bool.false_and, Bool.and_false, not_false_eq_true, not_true_eq_false, toIntK, List.length_set, Nat.reduceMul, Bool.not_eq_true, Bool.not_eq_false, List.all_cons, List.all_nil, exps, fillL, buildK, strK, nilcK, fnK, callVT, List.size_toArray, List.append_nil, List.singleton_append, boxOK, newOK, scal_nil, List.isEmpty_nil, List.isEmpty_cons, mkVK, mkOK, mkCells, zeros_0, zeros_1, zeros_2, zeros_3, zeros_4, List.map_cons, List.map_nil, h0', h3]
    · have q2 : ¬ j < 128 := by have := of_decide_eq_true q1; omega
      have hll := congrArg List.length hl
      have hp := varL_pos j
      rw [List.length_append] at hll
      obtain ⟨v2, H2, e1, e2, e3, e4, e5, e6, e7⟩ := hs.oneN (m := m) (j % 128 + 128) ho hH.length_le hw (by omega)
      have t1 : Int.tmod (j : Int) 128 = ((j % 128 : Nat) : Int) := rfl
      have t2 : Int.tdiv (j : Int) 128 = ((j / 128 : Nat) : Int) := rfl
      have t3 : IntKind.u8.wrap (128 + ((j % 128 : Nat) : Int)) = ((j % 128 + 128 : Nat) : Int) := by rw [wrap8 _ (by omega) (by omega)]; omega
      simp only [go_nil, go_blk, go_skip, go_ret, go_exit, go_seq, go_block, go_reg, go_r0, go_r, go_d0, go_d, go_e0, go_e, box2, Option.isSome_some, Nat.le_refl, go_cond, go_o, go_g, aft_some, cnd_bool, grd_bool, grd_tup, brT_true, brT_false, brT_not, thr_exit, thr_c, thr_nil, stp, stepK, movK, mv1, ex, exv, exvs, upd_some, upd_none, ini, St.val, binK, binV, ofV, pickK, unK, unV, beqK, beq_true, beq_false, if_true, if_false, List.getElem?_cons_zero, List.getElem?_cons_succ, ↓reduceIte, Nat.reduceEqDiff, reduceCtorEq, loadK, adr, deref, Ad.fv, Ad.live, fadrK, List.length_cons, List.length_nil, List.drop_zero, List.drop_succ_cons, List.take_succ_cons, List.take_zero, Nat.reduceAdd, Nat.reduceLeDiff, Nat.zero_add, Nat.add_zero, aeqK, agEq, scEq, boxVK, newVK, exc, vc_agg, vc_int, vc_bool, vc_str, vc_ptr, vc_sl, vc_fn, boxOf, adInf, List.reverse_cons, List.reverse_nil, List.nil_append, List.cons_append, extK, Bool.and_true, Bool.true_and, Bool.not_true, Bool.not_false, resT, resVs, resV, true_and, and_true, storeK, spl_nil, spl_z, spl_1, spl_2, spl_3, spl_4, spl_5, spl_6, spl_7, spl_8, scal_int, scal_bool, scal_str, scal_nil, implies_true, Bool.and_self, Post_ret, Post_normal, PostS_ret, PostS_normal, retT_true, retT_false, flat_bool, flat_int, flat_str, List.take_length, decide_true, decide_false, Option.some.injEq, Value.bool.injEq, Value.int.injEq, Bool.false_and, Bool.and_false, not_false_eq_true, not_true_eq_false, toIntK, List.length_set, Nat.reduceMul, Bool.not_eq_true, Bool.not_eq_false, List.all_cons, List.all_nil, exps, fillL, buildK, strK, nilcK, fnK, callVT, List.size_toArray, List.append_nil, List.singleton_append, boxOK, newOK, scal_nil, List.isEmpty_nil, List.isEmpty_cons, mkVK, mkOK, mkCells, zeros_0, zeros_1, zeros_2, zeros_3, zeros_4, List.map_cons, List.map_nil, h0', h3, ne128, t1, t2, wrap64 (128 + ((j % 128 : Nat) : Int)) (by omega) (by omega), t3]
      rw [e1]
      rotate_left
      · rfl
      · rfl
      · rfl
      simp only [go_nil, go_blk, go_skip, go_ret, go_exit, go_seq, go_block, go_reg, go_r0, go_r, go_d0, go_d, go_e0, go_e, box2, Option.isSome_some, Nat.le_refl, go_cond, go_o, go_g, aft_some, cnd_bool, grd_bool, grd_tup, brT_true, brT_false, brT_not, thr_exit, thr_c, thr_nil, stp, stepK, movK, mv1, ex, exv, exvs, upd_some, upd_none, ini, St.val, binK, binV, ofV, pickK, unK, unV, beqK, beq_true, beq_false, if_true, if_false, List.getElem?_cons_zero, List.getElem?_cons_succ, ↓reduceIte, Nat.reduceEqDiff, reduceCtorEq, loadK, adr, deref, Ad.fv, Ad.live, fadrK, List.length_cons, List.length_nil, List.drop_zero, List.drop_succ_cons, List.take_succ_cons, List.take_zero, Nat.reduceAdd, Nat.reduceLeDiff, Nat.zero_add, Nat.add_zero, aeqK, agEq, scEq, boxVK, newVK, exc, vc_agg, vc_int, vc_bool, vc_str, vc_ptr, vc_sl, vc_fn, boxOf, adInf, List.reverse_cons, List.reverse_nil, List.nil_append, List.cons_append, extK, Bool.and_true, Bool.true_and, Bool.not_true, Bool.not_false, resT, resVs, resV, true_and, and_true, storeK, spl_nil, spl_z, spl_1, spl_2, spl_3, spl_4, spl_5, spl_6, spl_7, spl_8, scal_int, scal_bool, scal_str, scal_nil, implies_true, Bool.and_self, Post_ret, Post_normal, PostS_ret, PostS_normal, retT_true, retT_false, flat_bool, flat_int, flat_str, List.take_length, decide_true, decide_false, Option.some.injEq, Value.bool.injEq, Value.int.injEq, Bool.false_and, Bool.and_false, not_false_eq_true, not_true_eq_false, toIntK, List.length_set, Nat.reduceMul, Bool.not_eq_true, Bool.not_eq_false, List.all_cons, List.all_nil, exps, fillL, buildK, strK, nilcK, fnK, callVT, List.size_toArray, List.append_nil, List.singleton_append, boxOK, newOK, scal_nil, List.isEmpty_nil, List.isEmpty_cons, mkVK, mkOK, mkCells, zeros_0, zeros_1, zeros_2, zeros_3, zeros_4, List.map_cons, List.map_nil, h0', h3, ne128, t1, t2, wrap64 (((j / 128 : Nat) : Int)) (by omega) (by omega)]
      refine ⟨j / 128, by omega, e7 H (Nat.le_refl _) hH, rfl, by omega, v2, _, rfl, e2, e3, ?_⟩
      rw [List.append_assoc, List.singleton_append, ← varL_ge q2]
      exact hl
    · have q2 : j < 128 := by have := of_decide_eq_false q1; omega
      rw [varL_lt q2] at hl
      exact ⟨hH, j, wv, l, rfl, q2, rfl, hs, ho, hl⟩
  · rintro s ⟨hH, j, wv, l, h0', hj, h3, hs, ho, hl⟩
    have hll := congrArg List.length hl
    rw [List.length_append] at hll
    obtain ⟨v2, H2, e1, e2, e3, e4, e5, e6, e7⟩ := hs.oneN (m := m) j ho hH.length_le hw (by simp at hll; omega)
    have hb := e2.b2s (fun x hx => by
      rw [hl] at hx
      obtain ⟨i, hi⟩ := List.getElem?_of_mem hx
      exact (varL_bits k i x hi).1)
    simp only [go_nil, go_blk, go_skip, go_ret, go_exit, go_seq, go_block, go_reg, go_r0, go_r, go_d0, go_d, go_e0, go_e, box2, Option.isSome_some, Nat.le_refl, go_cond, go_o, go_g, aft_some, cnd_bool, grd_bool, grd_tup, brT_true, brT_false, brT_not, thr_exit, thr_c, thr_nil, stp, stepK, movK, mv1, ex, exv, exvs, upd_some, upd_none, ini, St.val, binK, binV, ofV, pickK, unK, unV, beqK, beq_true, beq_false, if_true, if_false, List.getElem?_cons_zero, List.getElem?_cons_succ, ↓reduceIte, Nat.reduceEqDiff, reduceCtorEq, loadK, adr, deref, Ad.fv, Ad.live, fadrK, List.length_cons, List.length_nil, List.drop_zero, List.drop_succ_cons, List.take_succ_cons, List.take_zero, Nat.reduceAdd, Nat.reduceLeDiff, Nat.zero_add, Nat.add_zero, aeqK, agEq, scEq, boxVK, newVK, exc, vc_agg, vc_int, vc_bool, vc_str, vc_ptr, vc_sl, vc_fn, boxOf, adInf, List.reverse_cons, List.reverse_nil, List.nil_append, List.cons_append, extK, Bool.and_true, Bool.true_and, Bool.not_true, Bool.not_false, resT, resVs, resV, true_and, and_true, storeK, spl_nil, spl_z, spl_1, spl_2, spl_3, spl_4, spl_5, spl_6, spl_7, spl_8, scal_int, scal_bool, scal_str, scal_nil, implies_true, Bool.and_self, Post_ret, Post_normal, PostS_ret, PostS_normal, retT_true, retT_false, flat_bool, flat_int, flat_str, List.take_length, decide_true, decide_false, Option.some.injEq, Value.bool.injEq, Value.int.injEq, Bool.false_and, Bool.and_false, not_false_eq_true, not_true_eq_false, toIntK, List.length_set, Nat.reduceMul, Bool.not_eq_true, Bool.not_eq_false, List.all_cons, List.all_nil, exps, fillL, buildK, strK, nilcK, fnK, callVT, List.size_toArray, List.append_nil, List.singleton_append, boxOK, newOK, scal_nil, List.isEmpty_nil, List.isEmpty_cons, mkVK, mkOK, mkCells, zeros_0, zeros_1, zeros_2, zeros_3, zeros_4, List.map_cons, List.map_nil, h0', h3, wrap8 (j : Int) (by omega) (by omega)]
    rw [e1]
    rotate_left
    · rfl
    · rfl
    · rfl
    simp only [go_nil, go_blk, go_skip, go_ret, go_exit, go_seq, go_block, go_reg, go_r0, go_r, go_d0, go_d, go_e0, go_e, box2, Option.isSome_some, Nat.le_refl, go_cond, go_o, go_g, aft_some, cnd_bool, grd_bool, grd_tup, brT_true, brT_false, brT_not, thr_exit, thr_c, thr_nil, stp, stepK, movK, mv1, ex, exv, exvs, upd_some, upd_none, ini, St.val, binK, binV, ofV, pickK, unK, unV, beqK, beq_true, beq_false, if_true, if_false, List.getElem?_cons_zero, List.getElem?_cons_succ, ↓reduceIte, Nat.reduceEqDiff, reduceCtorEq, loadK, adr, deref, Ad.fv, Ad.live, fadrK, List.length_cons, List.length_nil, List.drop_zero, List.drop_succ_cons, List.take_succ_cons, List.take_zero, Nat.reduceAdd, Nat.reduceLeDiff, Nat.zero_add, Nat.add_zero, aeqK, agEq, scEq, boxVK, newVK, exc, vc_agg, vc_int, vc_bool, vc_str, vc_ptr, vc_sl, vc_fn, boxOf, adInf, List.reverse_cons, List.reverse_nil, List.nil_append, List.cons_append, extK, Bool.and_true, Bool.true_and, Bool.not_true, Bool.not_false, resT, resVs, resV, true_and, and_true, storeK, spl_nil, spl_z, spl_1, spl_2, spl_3, spl_4, spl_5, spl_6, spl_7, spl_8, scal_int, scal_bool, scal_str, scal_nil, implies_true, Bool.and_self, Post_ret, Post_normal, PostS_ret, PostS_normal, retT_true, retT_false, flat_bool, flat_int, flat_str, List.take_length, decide_true, decide_false, Option.some.injEq, Value.bool.injEq, Value.int.injEq, Bool.false_and, Bool.and_false, not_false_eq_true, not_true_eq_false, toIntK, List.length_set, Nat.reduceMul, Bool.not_eq_true, Bool.not_eq_false, List.all_cons, List.all_nil, exps, fillL, buildK, strK, nilcK, fnK, callVT, List.size_toArray, List.append_nil, List.singleton_append, boxOK, newOK, scal_nil, List.isEmpty_nil, List.isEmpty_cons, mkVK, mkOK, mkCells, zeros_0, zeros_1, zeros_2, zeros_3, zeros_4, List.map_cons, List.map_nil]
    rw [hb]
    rotate_left
    · rfl
    · rfl
    simp only [go_nil, go_blk, go_skip, go_ret, go_exit, go_seq, go_block, go_reg, go_r0, go_r, go_d0, go_d, go_e0, go_e, box2, Option.isSome_some, Nat.le_refl, go_cond, go_o, go_g, aft_some, cnd_bool, grd_bool, grd_tup, brT_true, brT_false, brT_not, thr_exit, thr_c, thr_nil, stp, stepK, movK, mv1, ex, exv, exvs, upd_some, upd_none, ini, St.val, binK, binV, ofV, pickK, unK, unV, beqK, beq_true, beq_false, if_true, if_false, List.getElem?_cons_zero, List.getElem?_cons_succ, ↓reduceIte, Nat.reduceEqDiff, reduceCtorEq, loadK, adr, deref, Ad.fv, Ad.live, fadrK, List.length_cons, List.length_nil, List.drop_zero, List.drop_succ_cons, List.take_succ_cons, List.take_zero, Nat.reduceAdd, Nat.reduceLeDiff, Nat.zero_add, Nat.add_zero, aeqK, agEq, scEq, boxVK, newVK, exc, vc_agg, vc_int, vc_bool, vc_str, vc_ptr, vc_sl, vc_fn, boxOf, adInf, List.reverse_cons, List.reverse_nil, List.nil_append, List.cons_append, extK, Bool.and_true, Bool.true_and, Bool.not_true, Bool.not_false, resT, resVs, resV, true_and, and_true, storeK, spl_nil, spl_z, spl_1, spl_2, spl_3, spl_4, spl_5, spl_6, spl_7, spl_8, scal_int, scal_bool, scal_str, scal_nil, implies_true, Bool.and_self, Post_ret, Post_normal, PostS_ret, PostS_normal, retT_true, retT_false, flat_bool, flat_int, flat_str, List.take_length, decide_true, decide_false, Option.some.injEq, Value.bool.injEq, Value.int.injEq, Bool.false_and, Bool.and_false, not_false_eq_true, not_true_eq_false, toIntK, List.length_set, Nat.reduceMul, Bool.not_eq_true, Bool.not_eq_false, List.all_cons, List.all_nil, exps, fillL, buildK, strK, nilcK, fnK, callVT, List.size_toArray, List.append_nil, List.singleton_append, boxOK, newOK, scal_nil, List.isEmpty_nil, List.isEmpty_cons, mkVK, mkOK, mkCells, zeros_0, zeros_1, zeros_2, zeros_3, zeros_4, List.map_cons, List.map_nil, hl]
    exact pre_take (e7 H (Nat.le_refl _) hH)
theorem f60 {H : Hp} {n : Int} : Scal EE 60 [.int .i64 n] H (.string (varB n)) := by
  refine scal_ok rfl rfl k60 (by simp [c60]) rfl fun m hw => ?_
  simp only [go_nil, go_blk, go_skip, go_ret, go_exit, go_seq, go_block, go_reg, go_r0, go_r, go_d0, go_d, go_e0, go_e, box2, Option.isSome_some, Nat.le_refl, go_cond, go_o, go_g, aft_some, cnd_bool, grd_bool, grd_tup, brT_true, brT_false, brT_not, thr_exit, thr_c, thr_nil, stp, stepK, movK, mv1, ex, exv, exvs, upd_some, upd_none, ini, St.val, binK, binV, ofV, pickK, unK, unV, beqK, beq_true, beq_false, if_true, if_false, List.getElem?_cons_zero, List.getElem?_cons_succ, ↓reduceIte, Nat.reduceEqDiff, reduceCtorEq, loadK, adr, deref, Ad.fv, Ad.live, fadrK, List.length_cons, List.length_nil, List.drop_zero, List.drop_succ_cons, List.take_succ_cons, List.take_zero, Nat.reduceAdd, Nat.reduceLeDiff, Nat.zero_add, Nat.add_zero, aeqK, agEq, scEq, boxVK, newVK, exc, vc_agg, vc_int, vc_bool, vc_str, vc_ptr, vc_sl, vc_fn, boxOf, adInf, List.reverse_cons, List.reverse_nil, List.nil_append, List.cons_append, extK, Bool.and_true, Bool.true_and, Bool.not_true, Bool.not_false, resT, resVs, resV, true_and, and_true, storeK, spl_nil, spl_z, spl_1, spl_2, spl_3, spl_4, spl_5, spl_6, spl_7, spl_8, scal_int, scal_bool, scal_str, scal_nil, implies_true, Bool.and_self, Post_ret, Post_normal, PostS_ret, PostS_normal, retT_true, retT_false, flat_bool, flat_int, flat_str, List.take_length, decide_true, decide_false, Option.some.injEq, Value.bool.injEq, Value.int.injEq, Bool.false_and, Bool.and_false, not_false_eq_true, not_true_eq_false, toIntK, List.length_set, Nat.reduceMul, Bool.not_eq_true, Bool.not_eq_false, List.all_cons, List.all_nil, exps, fillL, buildK, strK, nilcK, fnK, callVT, List.size_toArray, List.append_nil, List.singleton_append, boxOK, newOK, scal_nil, List.isEmpty_nil, List.isEmpty_cons, mkVK, mkOK, mkCells, zeros_0, zeros_1, zeros_2, zeros_3, zeros_4, List.map_cons, List.map_nil, c60, c55', hw, fillL]
  refine brT.intro (fun h => ?_) (fun h => ?_) <;> simp only [go_nil, go_blk, go_skip, go_ret, go_exit, go_seq, go_block, go_reg, go_r0, go_r, go_d0, go_d, go_e0, go_e, box2, Option.isSome_some, Nat.le_refl, go_cond, go_o, go_g, aft_some, cnd_bool, grd_bool, grd_tup, brT_true, brT_false, brT_not, thr_exit, thr_c, thr_nil, stp, stepK, movK, mv1, ex, exv, exvs, upd_some, upd_none, ini, St.val, binK, binV, ofV, pickK, unK, unV, beqK, beq_true, beq_false, if_true, if_false, List.getElem?_cons_zero, List.getElem?_cons_succ, ↓reduceIte, Nat.reduceEqDiff, reduceCtorEq, loadK, adr, deref, Ad.fv, Ad.live, fadrK, List.length_cons, List.length_nil, List.drop_zero, List.drop_succ_cons, List.take_succ_cons, List.take_zero, Nat.reduceAdd, Nat.reduceLeDiff, Nat.zero_add, Nat.add_zero, aeqK, agEq, scEq, boxVK, newVK, exc, vc_agg, vc_int, vc_bool, vc_str, vc_ptr, vc_sl, vc_fn, boxOf, adInf, List.reverse_cons, List.reverse_nil, List.nil_append, List.cons_append, extK, Bool.and_true, Bool.true_and, Bool.not_true, Bool.not_false, resT, resVs, resV, true_and, and_true, storeK, spl_nil, spl_z, spl_1, spl_2, spl_3, spl_4, spl_5, spl_6, spl_7, spl_8, scal_int, scal_bool, scal_str, scal_nil, implies_true, Bool.and_self, Post_ret, Post_normal, PostS_ret, PostS_normal, retT_true, retT_false, flat_bool, flat_int, flat_str, List.take_length, decide_true, decide_false, Option.some.injEq, Value.bool.injEq, Value.int.injEq, Bool.false_and, Bool.and_false, not_false_eq_true, not_true_eq_false, toIntK, List.length_set, Nat.reduceMul, Bool.not_eq_true, Bool.not_eq_false, List.all_cons, List.all_nil, exps, fillL, buildK, strK, nilcK, fnK, callVT, List.size_toArray, List.append_nil, List.singleton_append, boxOK, newOK, scal_nil, List.isEmpty_nil, List.isEmpty_cons, mkVK, mkOK, mkCells, zeros_0, zeros_1, zeros_2, zeros_3, zeros_4, List.map_cons, List.map_nil, fillL]
  rotate_left
  · rw [varB_out h]
  obtain ⟨h0, h1⟩ := varB_in h
  obtain ⟨k, rfl⟩ : ∃ k : Nat, n = k := ⟨n.toNat, by omega⟩
  have hV : varB (k : Int) = strOf (varL k) := by unfold varB; rw [if_pos ⟨h0, h1⟩]; rfl
  have h7 : (128 : Nat) ^ (6 + 1) = 562949953421312 := by decide
  have hlen := varL_len 6 k (by omega)
  rw [hV]
  refine go_loop (fun j s => H <+: s.H ∧ s.ρ 0 = .val (.int .i64 j) ∧ j ≤ k ∧ ∃ wv l, s.ρ 3 = .val wv ∧ SlN s.H wv l ∧ OwnS H.length wv ∧ l ++ varL j = varL k)
    (fun s => H <+: s.H ∧ ∃ (j : Nat) (wv : Value) (l : List Nat), s.ρ 0 = .val (.int .i64 j) ∧ j < 128 ∧ s.ρ 3 = .val wv ∧ SlN s.H wv l ∧ OwnS H.length wv ∧ l ++ [j] = varL k) k ?_ ?_ ?_
  · exact ⟨List.prefix_append _ _, by simp [upd, ini], Nat.le_refl _, _, [], by simp [upd], own_newN, .inr ⟨_, _, _, _, rfl, Nat.le_refl _⟩, rfl⟩
  · rintro j s ⟨hH, h0', hj, wv, l, h3, hs, ho, hl⟩
    simp only [go_nil, go_blk, go_skip, go_ret, go_exit, go_seq, go_block, go_reg, go_r0, go_r, go_d0, go_d, go_e0, go_e, box2, Option.isSome_some, Nat.le_refl, go_cond, go_o, go_g, aft_some, cnd_bool, grd_bool, grd_tup, brT_true, brT_false, brT_not, thr_exit, thr_c, thr_nil, stp, stepK, movK, mv1, ex, exv, exvs, upd_some, upd_none, ini, St.val, binK, binV, ofV, pickK, unK, unV, beqK, beq_true, beq_false, if_true, if_false, List.getElem?_cons_zero, List.getElem?_cons_succ, ↓reduceIte, Nat.reduceEqDiff, reduceCtorEq, loadK, adr, deref, Ad.fv, Ad.live, fadrK, List.length_cons, List.length_nil, List.drop_zero, List.drop_succ_cons, List.take_succ_cons, List.take_zero, Nat.reduceAdd, Nat.reduceLeDiff, Nat.zero_add, Nat.add_zero, aeqK, agEq, scEq, boxVK, newVK, exc, vc_agg, vc_int, vc_bool, vc_str, vc_ptr, vc_sl, vc_fn, boxOf, adInf, List.reverse_cons, List.reverse_nil, List.nil_append, List.cons_append, extK, Bool.and_true, Bool.true_and, Bool.not_true, Bool.not_false, resT, resVs, resV, true_and, and_true, storeK, spl_nil, spl_z, spl_1, spl_2, spl_3, spl_4, spl_5, spl_6, spl_7, spl_8, scal_int, scal_bool, scal_str, scal_nil, implies_true, Bool.and_self, Post_ret, Post_normal, PostS_ret, PostS_normal, retT_true, retT_false, flat_bool, flat_int, flat_str, List.take_length, decide_true, decide_false, Option.some.injEq, Value.bool.injEq, Value.int.injEq, Bool.false_and, Bool.and_false, not_false_eq_true, not_true_eq_false, toIntK, List.length_set, Nat.reduceMul, Bool.not_eq_true, Bool.not_eq_false, List.all_cons, List.all_nil, exps, fillL, buildK, strK, nilcK, fnK, callVT, List.size_toArray, List.append_nil, List.singleton_append, boxOK, newOK, scal_nil, List.isEmpty_nil, List.isEmpty_cons, mkVK, mkOK, mkCells, zeros_0, zeros_1, zeros_2, zeros_3, zeros_4, List.map_cons, List.map_nil, h0', h3]
    refine brT.intro (fun q1 => ?_) (fun q1 => ?_) <;> simp only [go_nil, go_blk, go_skip, go_ret, go_exit, go_seq, go_block, go_reg, go_r0, go_r, go_d0, go_d, go_e0, go_e, box2, Option.isSome_some, Nat.le_refl, go_cond, go_o, go_g, aft_some, cnd_bool, grd_bool, grd_tup, brT_true, brT_false, brT_not, thr_exit, thr_c, thr_nil, stp, stepK, movK, mv1, ex, exv, exvs, upd_some, upd_none, ini, St.val, binK, binV, ofV, pickK, unK, unV, beqK, beq_true, beq_false, if_true, if_false, List.getElem?_cons_zero, List.getElem?_cons_succ, ↓reduceIte, Nat.reduceEqDiff, reduceCtorEq, loadK, adr, deref, Ad.fv, Ad.live, fadrK, List.length_cons, List.length_nil, List.drop_zero, List.drop_succ_cons, List.take_succ_cons, List.take_zero, Nat.reduceAdd, Nat.reduceLeDiff, Nat.zero_add, Nat.add_zero, aeqK, agEq, scEq, boxVK, newVK, exc, vc_agg, vc_int, vc_bool, vc_str, vc_ptr, vc_sl, vc_fn, boxOf, adInf, List.reverse_cons, List.reverse_nil, List.nil_append, List.cons_append, extK, Bool.and_true, Bool.true_and, Bool.not_true, Bool.not_false, resT, resVs, resV, true_and, and_true, storeK, spl_nil, spl_z, spl_1, spl_2, spl_3, spl_4, spl_5, spl_6, spl_7, spl_8, scal_int, scal_bool, scal_str, scal_nil, implies_true, Bool.and_self, Post_ret, Post_normal, PostS_ret, PostS_normal, retT_true, retT_false, flat_bool, flat_int, flat_str, List.take_length, decide_true, decide_false, Option.some.injEq, Value.bool.injEq, Value.int.injEq, Bool.false_and, Bool.and_false, not_false_eq_true, not_true_eq_false, toIntK, List.length_set, Nat.reduceMul, Bool.not_eq_true, Bool.not_eq_false, List.all_cons, List.all_nil, exps, fillL, buildK, strK, nilcK, fnK, callVT, List.size_toArray, List.append_nil, List.singleton_append, boxOK, newOK, scal_nil, List.isEmpty_nil, List.isEmpty_cons, mkVK, mkOK, mkCells, zeros_0, zeros_1, zeros_2, zeros_3, zeros_4, List.map_cons, List.map_nil, h0', h3]
    · have q2 : ¬ j < 128 := by have := of_decide_eq_true q1; omega
      have hll := congrArg List.length hl
      have hp := varL_pos j
      rw [List.length_append] at hll
      obtain ⟨v2, H2, e1, e2, e3, e4, e5, e6, e7⟩ := hs.oneN (m := m) (j % 128 + 128) ho hH.length_le hw (by omega)
      have t1 := and7 (k := j) (by omega)
      have t2 : Int.fdiv (j : Int) (2 ^ (min (Int.toNat 7) IntKind.i64.bits)) = ((j / 128 : Nat) : Int) := by rw [show (2 : Int) ^ (min (Int.toNat 7) IntKind.i64.bits) = 128 by decide, Int.fdiv_eq_ediv_of_nonneg _ (by decide)]; omega
      have t3 := or128 (k := j % 128) (by omega)
      have t4 : IntKind.u8.wrap (((j % 128 + 128 : Nat) : Int)) = ((j % 128 + 128 : Nat) : Int) := wrap8 _ (by omega) (by omega)
      simp only [go_nil, go_blk, go_skip, go_ret, go_exit, go_seq, go_block, go_reg, go_r0, go_r, go_d0, go_d, go_e0, go_e, box2, Option.isSome_some, Nat.le_refl, go_cond, go_o, go_g, aft_some, cnd_bool, grd_bool, grd_tup, brT_true, brT_false, brT_not, thr_exit, thr_c, thr_nil, stp, stepK, movK, mv1, ex, exv, exvs, upd_some, upd_none, ini, St.val, binK, binV, ofV, pickK, unK, unV, beqK, beq_true, beq_false, if_true, if_false, List.getElem?_cons_zero, List.getElem?_cons_succ, ↓reduceIte, Nat.reduceEqDiff, reduceCtorEq, loadK, adr, deref, Ad.fv, Ad.live, fadrK, List.length_cons, List.length_nil, List.drop_zero, List.drop_succ_cons, List.take_succ_cons, List.take_zero, Nat.reduceAdd, Nat.reduceLeDiff, Nat.zero_add, Nat.add_zero, aeqK, agEq, scEq, boxVK, newVK, exc, vc_agg, vc_int, vc_bool, vc_str, vc_ptr, vc_sl, vc_fn, boxOf, adInf, List.reverse_cons, List.reverse_nil, List.nil_append, List.cons_append, extK, Bool.and_true, Bool.true_and, Bool.not_true, Bool.not_false, resT, resVs, resV, true_and, and_true, storeK, spl_nil, spl_z, spl_1, spl_2, spl_3, spl_4, spl_5, spl_6, spl_7, spl_8, scal_int, scal_bool, scal_str, scal_nil, implies_true, Bool.and_self, Post_ret, Post_normal, PostS_ret, PostS_normal, retT_true, retT_false, flat_bool, flat_int, flat_str, List.take_length, decide_true, decide_false, Option.some.injEq, Value.bool.injEq, Value.int.injEq, Bool.false_and, Bool.and_false, not_false_eq_true, not_true_eq_false, toIntK, List.length_set, Nat.reduceMul, Bool.not_eq_true, Bool.not_eq_false, List.all_cons, List.all_nil, exps, fillL, buildK, strK, nilcK, fnK, callVT, List.size_toArray, List.append_nil, List.singleton_append, boxOK, newOK, scal_nil, List.isEmpty_nil, List.isEmpty_cons, mkVK, mkOK, mkCells, zeros_0, zeros_1, zeros_2, zeros_3, zeros_4, List.map_cons, List.map_nil, h0', h3, t1, t3, t4]
      rw [e1]
      rotate_left
      · rfl
      · rfl
      · rfl
      simp only [go_nil, go_blk, go_skip, go_ret, go_exit, go_seq, go_block, go_reg, go_r0, go_r, go_d0, go_d, go_e0, go_e, box2, Option.isSome_some, Nat.le_refl, go_cond, go_o, go_g, aft_some, cnd_bool, grd_bool, grd_tup, brT_true, brT_false, brT_not, thr_exit, thr_c, thr_nil, stp, stepK, movK, mv1, ex, exv, exvs, upd_some, upd_none, ini, St.val, binK, binV, ofV, pickK, unK, unV, beqK, beq_true, beq_false, if_true, if_false, List.getElem?_cons_zero, List.getElem?_cons_succ, ↓reduceIte, Nat.reduceEqDiff, reduceCtorEq, loadK, adr, deref, Ad.fv, Ad.live, fadrK, List.length_cons, List.length_nil, List.drop_zero, List.drop_succ_cons, List.take_succ_cons, List.take_zero, Nat.reduceAdd, Nat.reduceLeDiff, Nat.zero_add, Nat.add_zero, aeqK, agEq, scEq, boxVK, newVK, exc, vc_agg, vc_int, vc_bool, vc_str, vc_ptr, vc_sl, vc_fn, boxOf, adInf, List.reverse_cons, List.reverse_nil, List.nil_append, List.cons_append, extK, Bool.and_true, Bool.true_and, Bool.not_true, Bool.not_false, resT, resVs, resV, true_and, and_true, storeK, spl_nil, spl_z, spl_1, spl_2, spl_3, spl_4, spl_5, spl_6, spl_7, spl_8, scal_int, scal_bool, scal_str, scal_nil, implies_true, Bool.and_self, Post_ret, Post_normal, PostS_ret, PostS_normal, retT_true, retT_false, flat_bool, flat_int, flat_str, List.take_length, decide_true, decide_false, Option.some.injEq, Value.bool.injEq, Value.int.injEq, Bool.false_and, Bool.and_false, not_false_eq_true, not_true_eq_false, toIntK, List.length_set, Nat.reduceMul, Bool.not_eq_true, Bool.not_eq_false, List.all_cons, List.all_nil, exps, fillL, buildK, strK, nilcK, fnK, callVT, List.size_toArray, List.append_nil, List.singleton_append, boxOK, newOK, scal_nil, List.isEmpty_nil, List.isEmpty_cons, mkVK, mkOK, mkCells, zeros_0, zeros_1, zeros_2, zeros_3, zeros_4, List.map_cons, List.map_nil, h0', h3, t2, Int.reduceLT]
      refine ⟨j / 128, by omega, e7 H (Nat.le_refl _) hH, rfl, by omega, v2, _, rfl, e2, e3, ?_⟩
      rw [List.append_assoc, List.singleton_append, ← varL_ge q2]
      exact hl
    · have q2 : j < 128 := by have := of_decide_eq_false q1; omega
      rw [varL_lt q2] at hl
      exact ⟨hH, j, wv, l, rfl, q2, rfl, hs, ho, hl⟩
  · rintro s ⟨hH, j, wv, l, h0', hj, h3, hs, ho, hl⟩
    have hll := congrArg List.length hl
    rw [List.length_append] at hll
    obtain ⟨v2, H2, e1, e2, e3, e4, e5, e6, e7⟩ := hs.oneN (m := m) j ho hH.length_le hw (by simp at hll; omega)
    have hb := e2.b2s (fun x hx => by
      rw [hl] at hx
      obtain ⟨i, hi⟩ := List.getElem?_of_mem hx
      exact (varL_bits k i x hi).1)
    simp only [go_nil, go_blk, go_skip, go_ret, go_exit, go_seq, go_block, go_reg, go_r0, go_r, go_d0, go_d, go_e0, go_e, box2, Option.isSome_some, Nat.le_refl, go_cond, go_o, go_g, aft_some, cnd_bool, grd_bool, grd_tup, brT_true, brT_false, brT_not, thr_exit, thr_c, thr_nil, stp, stepK, movK, mv1, ex, exv, exvs, upd_some, upd_none, ini, St.val, binK, binV, ofV, pickK, unK, unV, beqK, beq_true, beq_false, if_true, if_false, List.getElem?_cons_zero, List.getElem?_cons_succ, ↓reduceIte, Nat.reduceEqDiff, reduceCtorEq, loadK, adr, deref, Ad.fv, Ad.live, fadrK, List.length_cons, List.length_nil, List.drop_zero, List.drop_succ_cons, List.take_succ_cons, List.take_zero, Nat.reduceAdd, Nat.reduceLeDiff, Nat.zero_add, Nat.add_zero, aeqK, agEq, scEq, boxVK, newVK, exc, vc_agg, vc_int, vc_bool, vc_str, vc_ptr, vc_sl, vc_fn, boxOf, adInf, List.reverse_cons, List.reverse_nil, List.nil_append, List.cons_append, extK, Bool.and_true, Bool.true_and, Bool.not_true, Bool.not_false, resT, resVs, resV, true_and, and_true, storeK, spl_nil, spl_z, spl_1, spl_2, spl_3, spl_4, spl_5, spl_6, spl_7, spl_8, scal_int, scal_bool, scal_str, scal_nil, implies_true, Bool.and_self, Post_ret, Post_normal, PostS_ret, PostS_normal, retT_true, retT_false, flat_bool, flat_int, flat_str, List.take_length, decide_true, decide_false, Option.some.injEq, Value.bool.injEq, Value.int.injEq, Bool.false_and, Bool.and_false, not_false_eq_true, not_true_eq_false, toIntK, List.length_set, Nat.reduceMul, Bool.not_eq_true, Bool.not_eq_false, List.all_cons, List.all_nil, exps, fillL, buildK, strK, nilcK, fnK, callVT, List.size_toArray, List.append_nil, List.singleton_append, boxOK, newOK, scal_nil, List.isEmpty_nil, List.isEmpty_cons, mkVK, mkOK, mkCells, zeros_0, zeros_1, zeros_2, zeros_3, zeros_4, List.map_cons, List.map_nil, h0', h3, wrap8 (j : Int) (by omega) (by omega)]
    rw [e1]
    rotate_left
    · rfl
    · rfl
    · rfl
    simp only [go_nil, go_blk, go_skip, go_ret, go_exit, go_seq, go_block, go_reg, go_r0, go_r, go_d0, go_d, go_e0, go_e, box2, Option.isSome_some, Nat.le_refl, go_cond, go_o, go_g, aft_some, cnd_bool, grd_bool, grd_tup, brT_true, brT_false, brT_not, thr_exit, thr_c, thr_nil, stp, stepK, movK, mv1, ex, exv, exvs, upd_some, upd_none, ini, St.val, binK, binV, ofV, pickK, unK, unV, beqK, beq_true, beq_false, if_true, if_false, List.getElem?_cons_zero, List.getElem?_cons_succ, ↓reduceIte, Nat.reduceEqDiff, reduceCtorEq, loadK, adr, deref, Ad.fv, Ad.live, fadrK, List.length_cons, List.length_nil, List.drop_zero, List.drop_succ_cons, List.take_succ_cons, List.take_zero, Nat.reduceAdd, Nat.reduceLeDiff, Nat.zero_add, Nat.add_zero, aeqK, agEq, scEq, boxVK, newVK, exc, vc_agg, vc_int, vc_bool, vc_str, vc_ptr, vc_sl, vc_fn, boxOf, adInf, List.reverse_cons, List.reverse_nil, List.nil_append, List.cons_append, extK, Bool.and_true, Bool.true_and, Bool.not_true, Bool.not_false, resT, resVs, resV, true_and, and_true, storeK, spl_nil, spl_z, spl_1, spl_2, spl_3, spl_4, spl_5, spl_6, spl_7, spl_8, scal_int, scal_bool, scal_str, scal_nil, implies_true, Bool.and_self, Post_ret, Post_normal, PostS_ret, PostS_normal, retT_true, retT_false, flat_bool, flat_int, flat_str, List.take_length, decide_true, decide_false, Option.some.injEq, Value.bool.injEq, Value.int.injEq, Bool.false_and, Bool.and_false, not_false_eq_true, not_true_eq_false, toIntK, List.length_set, Nat.reduceMul, Bool.not_eq_true, Bool.not_eq_false, List.all_cons, List.all_nil, exps, fillL, buildK, strK, nilcK, fnK, callVT, List.size_toArray, List.append_nil, List.singleton_append, boxOK, newOK, scal_nil, List.isEmpty_nil, List.isEmpty_cons, mkVK, mkOK, mkCells, zeros_0, zeros_1, zeros_2, zeros_3, zeros_4, List.map_cons, List.map_nil]
    rw [hb]
    rotate_left
    · rfl
    · rfl
    simp only [go_nil, go_blk, go_skip, go_ret, go_exit, go_seq, go_block, go_reg, go_r0, go_r, go_d0, go_d, go_e0, go_e, box2, Option.isSome_some, Nat.le_refl, go_cond, go_o, go_g, aft_some, cnd_bool, grd_bool, grd_tup, brT_true, brT_false, brT_not, thr_exit, thr_c, thr_nil, stp, stepK, movK, mv1, ex, exv, exvs, upd_some, upd_none, ini, St.val, binK, binV, ofV, pickK, unK, unV, beqK, beq_true, beq_false, if_true, if_false, List.getElem?_cons_zero, List.getElem?_cons_succ, ↓reduceIte, Nat.reduceEqDiff, reduceCtorEq, loadK, adr, deref, Ad.fv, Ad.live, fadrK, List.length_cons, List.length_nil, List.drop_zero, List.drop_succ_cons, List.take_succ_cons, List.take_zero, Nat.reduceAdd, Nat.reduceLeDiff, Nat.zero_add, Nat.add_zero, aeqK, agEq, scEq, boxVK, newVK, exc, vc_agg, vc_int, vc_bool, vc_str, vc_ptr, vc_sl, vc_fn, boxOf, adInf, List.reverse_cons, List.reverse_nil, List.nil_append, List.cons_append, extK, Bool.and_true, Bool.true_and, Bool.not_true, Bool.not_false, resT, resVs, resV, true_and, and_true, storeK, spl_nil, spl_z, spl_1, spl_2, spl_3, spl_4, spl_5, spl_6, spl_7, spl_8, scal_int, scal_bool, scal_str, scal_nil, implies_true, Bool.and_self, Post_ret, Post_normal, PostS_ret, PostS_normal, retT_true, retT_false, flat_bool, flat_int, flat_str, List.take_length, decide_true, decide_false, Option.some.injEq, Value.bool.injEq, Value.int.injEq, Bool.false_and, Bool.and_false, not_false_eq_true, not_true_eq_false, toIntK, List.length_set, Nat.reduceMul, Bool.not_eq_true, Bool.not_eq_false, List.all_cons, List.all_nil, exps, fillL, buildK, strK, nilcK, fnK, callVT, List.size_toArray, List.append_nil, List.singleton_append, boxOK, newOK, scal_nil, List.isEmpty_nil, List.isEmpty_cons, mkVK, mkOK, mkCells, zeros_0, zeros_1, zeros_2, zeros_3, zeros_4, List.map_cons, List.map_nil, hl]
    exact pre_take (e7 H (Nat.le_refl _) hH)
end Go.Proofs.Ytjepmnmakemfoaa.Ev

/- Numbers read from bytes: the reference's and the program's. -/
namespace Go.Proofs.Ytjepmnmakemfoaa.Ev
set_option linter.all false
open Go
set_option maxRecDepth 4000

theorem idx_at {s : St} {x y : X} {b : ByteArray} {i : Nat} {c : UInt8} (hc : b[i]? = some c) (hx : exv s.ρ x = some (.string b)) (hy : exv s.ρ y = some (.int .i64 i)) : idxK s x y = some (.val (.int .u8 c.toNat), s) := by
  unfold idxK
  rw [hx, hy]
  simp only [Int.toNat_natCast, hc]
  rw [if_pos (by omega)]
  rfl
theorem byte_at {b : ByteArray} {i : Nat} (h : i < b.size) : ∃ c, b[i]? = some c := ⟨_, getElem?_pos b i h⟩
theorem slc_to {s : St} {x y : X} {b : ByteArray} {k : Nat} (hk : k ≤ b.size) (hx : exv s.ρ x = some (.string b)) (hy : exv s.ρ y = some (.int .i64 k)) : slcSK s x none (some y) = some (.val (.string (b.extract 0 k)), s) := by
  unfold slcSK
  rw [hx]
  simp only [bnd, hy]
  rw [if_pos ⟨by omega, by omega, by omega⟩]
  rfl
theorem slc_rest {s : St} {x y : X} {b : ByteArray} {k : Nat} (hk : k ≤ b.size) (hx : exv s.ρ x = some (.string b)) (hy : exv s.ρ y = some (.int .i64 k)) : slcSK s x (some y) none = some (.val (.string (rest b k)), s) := by
  unfold slcSK
  rw [hx]
  simp only [bnd, hy]
  rw [if_pos ⟨by omega, by omega, by omega⟩]
  rfl

theorem valB_succ {s : ByteArray} {k : Nat} {c : UInt8} (hc : s[k]? = some c) : valB s (k + 1) = valB s k + c.toNat % 128 * 128 ^ k := by
  rw [valB, hc]
theorem pow7 {k : Nat} (h : k ≤ 7) : (128 : Nat) ^ k ≤ 562949953421312 := by
  have : (128 : Nat) ^ k ≤ 128 ^ 7 := Nat.pow_le_pow_right (by decide) h
  have h7 : (128 : Nat) ^ 7 = 562949953421312 := by decide
  omega
theorem valB_max (s : ByteArray) {k : Nat} (h : k ≤ 7) : valB s k < 562949953421312 := Nat.lt_of_lt_of_le (valB_lt s k) (pow7 h)
theorem le_of_mul {n p q : Nat} (h : n * p ≤ q) (hp : 0 < p) : n ≤ q := Nat.le_trans (Nat.le_mul_of_pos_right n hp) h

theorem f87 {H : Hp} {s : ByteArray} (hs : s.size ≤ 4611686018427387904) : Scal EE 87 [.string s] H (.tuple #[.int .i64 ((rdV s).1 : Nat), .int .i64 ((rdV s).2 : Nat)]) := by
  refine scal_ok rfl rfl k87 (by simp [c87]) rfl fun m hw => ?_
  simp only [go_nil, go_blk, go_skip, go_ret, go_exit, go_seq, go_block, go_reg, go_r0, go_r, go_d0, go_d, go_e0, go_e, box2, Option.isSome_some, Nat.le_refl, go_cond, go_o, go_g, aft_some, cnd_bool, grd_bool, grd_tup, brT_true, brT_false, brT_not, thr_exit, thr_c, thr_nil, stp, stepK, movK, mv1, ex, exv, exvs, upd_some, upd_none, ini, St.val, binK, binV, ofV, pickK, unK, unV, beqK, beq_true, beq_false, if_true, if_false, List.getElem?_cons_zero, List.getElem?_cons_succ, ↓reduceIte, Nat.reduceEqDiff, reduceCtorEq, loadK, adr, deref, Ad.fv, Ad.live, fadrK, List.length_cons, List.length_nil, List.drop_zero, List.drop_succ_cons, List.take_succ_cons, List.take_zero, Nat.reduceAdd, Nat.reduceLeDiff, Nat.zero_add, Nat.add_zero, aeqK, agEq, scEq, boxVK, newVK, exc, vc_agg, vc_int, vc_bool, vc_str, vc_ptr, vc_sl, vc_fn, boxOf, adInf, List.reverse_cons, List.reverse_nil, List.nil_append, List.cons_append, extK, Bool.and_true, Bool.true_and, Bool.not_true, Bool.not_false, resT, resVs, resV, true_and, and_true, storeK, spl_nil, spl_z, spl_1, spl_2, spl_3, spl_4, spl_5, spl_6, spl_7, spl_8, scal_int, scal_bool, scal_str, scal_nil, implies_true, Bool.and_self, Post_ret, Post_normal, PostS_ret, PostS_normal, retT_true, retT_false, flat_bool, flat_int, flat_str, List.take_length, decide_true, decide_false, Option.some.injEq, Value.bool.injEq, Value.int.injEq, Bool.false_and, Bool.and_false, not_false_eq_true, not_true_eq_false, toIntK, List.length_set, Nat.reduceMul, Bool.not_eq_true, Bool.not_eq_false, List.all_cons, List.all_nil, exps, fillL, buildK, strK, nilcK, fnK, callVT, List.size_toArray, List.append_nil, List.singleton_append, boxOK, newOK, scal_nil, List.isEmpty_nil, List.isEmpty_cons, mkVK, mkOK, mkCells, zeros_0, zeros_1, zeros_2, zeros_3, zeros_4, List.map_cons, List.map_nil, c87]
  refine go_for 7 (fun i t => H <+: t.H ∧ t.ρ 0 = .val (.string s) ∧ t.ρ 4 = .val (.int .i64 ((i + 1 : Nat) : Int)) ∧ ∀ k, k ≤ i → 1 ≤ k → ¬ isV s k)
    (fun t => H <+: t.H ∧ ∀ n k, ¬ readV s n k) ?_ ?_ ?_
  · exact ⟨List.prefix_refl _, by simp [upd, ini], by simp [upd], fun k h1 h2 => by omega⟩
  · rintro i t hi ⟨hH, h0, h4, hn⟩
    simp only [go_nil, go_blk, go_skip, go_ret, go_exit, go_seq, go_block, go_reg, go_r0, go_r, go_d0, go_d, go_e0, go_e, box2, Option.isSome_some, Nat.le_refl, go_cond, go_o, go_g, aft_some, cnd_bool, grd_bool, grd_tup, brT_true, brT_false, brT_not, thr_exit, thr_c, thr_nil, stp, stepK, movK, mv1, ex, exv, exvs, upd_some, upd_none, ini, St.val, binK, binV, ofV, pickK, unK, unV, beqK, beq_true, beq_false, if_true, if_false, List.getElem?_cons_zero, List.getElem?_cons_succ, ↓reduceIte, Nat.reduceEqDiff, reduceCtorEq, loadK, adr, deref, Ad.fv, Ad.live, fadrK, List.length_cons, List.length_nil, List.drop_zero, List.drop_succ_cons, List.take_succ_cons, List.take_zero, Nat.reduceAdd, Nat.reduceLeDiff, Nat.zero_add, Nat.add_zero, aeqK, agEq, scEq, boxVK, newVK, exc, vc_agg, vc_int, vc_bool, vc_str, vc_ptr, vc_sl, vc_fn, boxOf, adInf, List.reverse_cons, List.reverse_nil, List.nil_append, List.cons_append, extK, Bool.and_true, Bool.true_and, Bool.not_true, Bool.not_false, resT, resVs, resV, true_and, and_true, storeK, spl_nil, spl_z, spl_1, spl_2, spl_3, spl_4, spl_5, spl_6, spl_7, spl_8, scal_int, scal_bool, scal_str, scal_nil, implies_true, Bool.and_self, Post_ret, Post_normal, PostS_ret, PostS_normal, retT_true, retT_false, flat_bool, flat_int, flat_str, List.take_length, decide_true, decide_false, Option.some.injEq, Value.bool.injEq, Value.int.injEq, Bool.false_and, Bool.and_false, not_false_eq_true, not_true_eq_false, toIntK, List.length_set, Nat.reduceMul, Bool.not_eq_true, Bool.not_eq_false, List.all_cons, List.all_nil, exps, fillL, buildK, strK, nilcK, fnK, callVT, List.size_toArray, List.append_nil, List.singleton_append, boxOK, newOK, scal_nil, List.isEmpty_nil, List.isEmpty_cons, mkVK, mkOK, mkCells, zeros_0, zeros_1, zeros_2, zeros_3, zeros_4, List.map_cons, List.map_nil, h0, h4, lenTK]
    refine brT.intro (fun c1 => ?_) (fun c1 => ?_) <;> simp only [go_nil, go_blk, go_skip, go_ret, go_exit, go_seq, go_block, go_reg, go_r0, go_r, go_d0, go_d, go_e0, go_e, box2, Option.isSome_some, Nat.le_refl, go_cond, go_o, go_g, aft_some, cnd_bool, grd_bool, grd_tup, brT_true, brT_false, brT_not, thr_exit, thr_c, thr_nil, stp, stepK, movK, mv1, ex, exv, exvs, upd_some, upd_none, ini, St.val, binK, binV, ofV, pickK, unK, unV, beqK, beq_true, beq_false, if_true, if_false, List.getElem?_cons_zero, List.getElem?_cons_succ, ↓reduceIte, Nat.reduceEqDiff, reduceCtorEq, loadK, adr, deref, Ad.fv, Ad.live, fadrK, List.length_cons, List.length_nil, List.drop_zero, List.drop_succ_cons, List.take_succ_cons, List.take_zero, Nat.reduceAdd, Nat.reduceLeDiff, Nat.zero_add, Nat.add_zero, aeqK, agEq, scEq, boxVK, newVK, exc, vc_agg, vc_int, vc_bool, vc_str, vc_ptr, vc_sl, vc_fn, boxOf, adInf, List.reverse_cons, List.reverse_nil, List.nil_append, List.cons_append, extK, Bool.and_true, Bool.true_and, Bool.not_true, Bool.not_false, resT, resVs, resV, true_and, and_true, storeK, spl_nil, spl_z, spl_1, spl_2, spl_3, spl_4, spl_5, spl_6, spl_7, spl_8, scal_int, scal_bool, scal_str, scal_nil, implies_true, Bool.and_self, Post_ret, Post_normal, PostS_ret, PostS_normal, retT_true, retT_false, flat_bool, flat_int, flat_str, List.take_length, decide_true, decide_false, Option.some.injEq, Value.bool.injEq, Value.int.injEq, Bool.false_and, Bool.and_false, not_false_eq_true, not_true_eq_false, toIntK, List.length_set, Nat.reduceMul, Bool.not_eq_true, Bool.not_eq_false, List.all_cons, List.all_nil, exps, fillL, buildK, strK, nilcK, fnK, callVT, List.size_toArray, List.append_nil, List.singleton_append, boxOK, newOK, scal_nil, List.isEmpty_nil, List.isEmpty_cons, mkVK, mkOK, mkCells, zeros_0, zeros_1, zeros_2, zeros_3, zeros_4, List.map_cons, List.map_nil, c1, h0, h4, lenTK]
    rotate_left
    · have : ¬ i + 1 ≤ 7 := by have := of_decide_eq_false c1; omega
      exact ⟨hH, fun n k h => hn k (by have := h.2.1; omega) h.1 h.2.2.2.2⟩
    refine brT.intro (fun c2 => ?_) (fun c2 => ?_) <;> simp only [go_nil, go_blk, go_skip, go_ret, go_exit, go_seq, go_block, go_reg, go_r0, go_r, go_d0, go_d, go_e0, go_e, box2, Option.isSome_some, Nat.le_refl, go_cond, go_o, go_g, aft_some, cnd_bool, grd_bool, grd_tup, brT_true, brT_false, brT_not, thr_exit, thr_c, thr_nil, stp, stepK, movK, mv1, ex, exv, exvs, upd_some, upd_none, ini, St.val, binK, binV, ofV, pickK, unK, unV, beqK, beq_true, beq_false, if_true, if_false, List.getElem?_cons_zero, List.getElem?_cons_succ, ↓reduceIte, Nat.reduceEqDiff, reduceCtorEq, loadK, adr, deref, Ad.fv, Ad.live, fadrK, List.length_cons, List.length_nil, List.drop_zero, List.drop_succ_cons, List.take_succ_cons, List.take_zero, Nat.reduceAdd, Nat.reduceLeDiff, Nat.zero_add, Nat.add_zero, aeqK, agEq, scEq, boxVK, newVK, exc, vc_agg, vc_int, vc_bool, vc_str, vc_ptr, vc_sl, vc_fn, boxOf, adInf, List.reverse_cons, List.reverse_nil, List.nil_append, List.cons_append, extK, Bool.and_true, Bool.true_and, Bool.not_true, Bool.not_false, resT, resVs, resV, true_and, and_true, storeK, spl_nil, spl_z, spl_1, spl_2, spl_3, spl_4, spl_5, spl_6, spl_7, spl_8, scal_int, scal_bool, scal_str, scal_nil, implies_true, Bool.and_self, Post_ret, Post_normal, PostS_ret, PostS_normal, retT_true, retT_false, flat_bool, flat_int, flat_str, List.take_length, decide_true, decide_false, Option.some.injEq, Value.bool.injEq, Value.int.injEq, Bool.false_and, Bool.and_false, not_false_eq_true, not_true_eq_false, toIntK, List.length_set, Nat.reduceMul, Bool.not_eq_true, Bool.not_eq_false, List.all_cons, List.all_nil, exps, fillL, buildK, strK, nilcK, fnK, callVT, List.size_toArray, List.append_nil, List.singleton_append, boxOK, newOK, scal_nil, List.isEmpty_nil, List.isEmpty_cons, mkVK, mkOK, mkCells, zeros_0, zeros_1, zeros_2, zeros_3, zeros_4, List.map_cons, List.map_nil, c1, c2, h0, h4]
    rotate_left
    · have : ¬ i + 1 ≤ s.size := by have := of_decide_eq_false c2; omega
      exact ⟨hH, fun n k h => hn k (by have := h.2.2.1; omega) h.1 h.2.2.2.2⟩
    have hi7 : i < 7 := by have := of_decide_eq_true c1; omega
    have his : i + 1 ≤ s.size := by have := of_decide_eq_true c2; omega
    have hvm := valB_max s (k := i + 1) (by omega)
    simp only [go_nil, go_blk, go_skip, go_ret, go_exit, go_seq, go_block, go_reg, go_r0, go_r, go_d0, go_d, go_e0, go_e, box2, Option.isSome_some, Nat.le_refl, go_cond, go_o, go_g, aft_some, cnd_bool, grd_bool, grd_tup, brT_true, brT_false, brT_not, thr_exit, thr_c, thr_nil, stp, stepK, movK, mv1, ex, exv, exvs, upd_some, upd_none, ini, St.val, binK, binV, ofV, pickK, unK, unV, beqK, beq_true, beq_false, if_true, if_false, List.getElem?_cons_zero, List.getElem?_cons_succ, ↓reduceIte, Nat.reduceEqDiff, reduceCtorEq, loadK, adr, deref, Ad.fv, Ad.live, fadrK, List.length_cons, List.length_nil, List.drop_zero, List.drop_succ_cons, List.take_succ_cons, List.take_zero, Nat.reduceAdd, Nat.reduceLeDiff, Nat.zero_add, Nat.add_zero, aeqK, agEq, scEq, boxVK, newVK, exc, vc_agg, vc_int, vc_bool, vc_str, vc_ptr, vc_sl, vc_fn, boxOf, adInf, List.reverse_cons, List.reverse_nil, List.nil_append, List.cons_append, extK, Bool.and_true, Bool.true_and, Bool.not_true, Bool.not_false, resT, resVs, resV, true_and, and_true, storeK, spl_nil, spl_z, spl_1, spl_2, spl_3, spl_4, spl_5, spl_6, spl_7, spl_8, scal_int, scal_bool, scal_str, scal_nil, implies_true, Bool.and_self, Post_ret, Post_normal, PostS_ret, PostS_normal, retT_true, retT_false, flat_bool, flat_int, flat_str, List.take_length, decide_true, decide_false, Option.some.injEq, Value.bool.injEq, Value.int.injEq, Bool.false_and, Bool.and_false, not_false_eq_true, not_true_eq_false, toIntK, List.length_set, Nat.reduceMul, Bool.not_eq_true, Bool.not_eq_false, List.all_cons, List.all_nil, exps, fillL, buildK, strK, nilcK, fnK, callVT, List.size_toArray, List.append_nil, List.singleton_append, boxOK, newOK, scal_nil, List.isEmpty_nil, List.isEmpty_cons, mkVK, mkOK, mkCells, zeros_0, zeros_1, zeros_2, zeros_3, zeros_4, List.map_cons, List.map_nil, h0, h4, wrap64 (((i + 1 : Nat) : Int) - 1) (by omega) (by omega)]
    refine go_loop (fun j t' => t'.H = t.H ∧ t'.ρ 0 = .val (.string s) ∧ t'.ρ 4 = .val (.int .i64 ((i + 1 : Nat) : Int)) ∧ t'.ρ 6 = .val (.int .i64 ((j : Int) - 1)) ∧ j ≤ i + 1 ∧ ∃ n : Nat, t'.ρ 5 = .val (.int .i64 n) ∧ n * 128 ^ j + valB s j = valB s (i + 1))
      (fun t' => t'.H = t.H ∧ t'.ρ 0 = .val (.string s) ∧ t'.ρ 4 = .val (.int .i64 ((i + 1 : Nat) : Int)) ∧ t'.ρ 5 = .val (.int .i64 ((valB s (i + 1) : Nat) : Int))) (i + 1) ?_ ?_ ?_
    · exact ⟨rfl, by simp [upd, h0], by simp [upd, h4], by simp [upd], Nat.le_refl _, 0, by simp [upd], by simp⟩
    · rintro j t' ⟨jH, j0, j4, j6, hj, n, j5, hv⟩
      simp only [go_nil, go_blk, go_skip, go_ret, go_exit, go_seq, go_block, go_reg, go_r0, go_r, go_d0, go_d, go_e0, go_e, box2, Option.isSome_some, Nat.le_refl, go_cond, go_o, go_g, aft_some, cnd_bool, grd_bool, grd_tup, brT_true, brT_false, brT_not, thr_exit, thr_c, thr_nil, stp, stepK, movK, mv1, ex, exv, exvs, upd_some, upd_none, ini, St.val, binK, binV, ofV, pickK, unK, unV, beqK, beq_true, beq_false, if_true, if_false, List.getElem?_cons_zero, List.getElem?_cons_succ, ↓reduceIte, Nat.reduceEqDiff, reduceCtorEq, loadK, adr, deref, Ad.fv, Ad.live, fadrK, List.length_cons, List.length_nil, List.drop_zero, List.drop_succ_cons, List.take_succ_cons, List.take_zero, Nat.reduceAdd, Nat.reduceLeDiff, Nat.zero_add, Nat.add_zero, aeqK, agEq, scEq, boxVK, newVK, exc, vc_agg, vc_int, vc_bool, vc_str, vc_ptr, vc_sl, vc_fn, boxOf, adInf, List.reverse_cons, List.reverse_nil, List.nil_append, List.cons_append, extK, Bool.and_true, Bool.true_and, Bool.not_true, Bool.not_false, resT, resVs, resV, true_and, and_true, storeK, spl_nil, spl_z, spl_1, spl_2, spl_3, spl_4, spl_5, spl_6, spl_7, spl_8, scal_int, scal_bool, scal_str, scal_nil, implies_true, Bool.and_self, Post_ret, Post_normal, PostS_ret, PostS_normal, retT_true, retT_false, flat_bool, flat_int, flat_str, List.take_length, decide_true, decide_false, Option.some.injEq, Value.bool.injEq, Value.int.injEq, Bool.false_and, Bool.and_false, not_false_eq_true, not_true_eq_false, toIntK, List.length_set, Nat.reduceMul, Bool.not_eq_true, Bool.not_eq_false, List.all_cons, List.all_nil, exps, fillL, buildK, strK, nilcK, fnK, callVT, List.size_toArray, List.append_nil, List.singleton_append, boxOK, newOK, scal_nil, List.isEmpty_nil, List.isEmpty_cons, mkVK, mkOK, mkCells, zeros_0, zeros_1, zeros_2, zeros_3, zeros_4, List.map_cons, List.map_nil, j0, j4, j5, j6]
      refine brT.intro (fun c3 => ?_) (fun c3 => ?_) <;> simp only [go_nil, go_blk, go_skip, go_ret, go_exit, go_seq, go_block, go_reg, go_r0, go_r, go_d0, go_d, go_e0, go_e, box2, Option.isSome_some, Nat.le_refl, go_cond, go_o, go_g, aft_some, cnd_bool, grd_bool, grd_tup, brT_true, brT_false, brT_not, thr_exit, thr_c, thr_nil, stp, stepK, movK, mv1, ex, exv, exvs, upd_some, upd_none, ini, St.val, binK, binV, ofV, pickK, unK, unV, beqK, beq_true, beq_false, if_true, if_false, List.getElem?_cons_zero, List.getElem?_cons_succ, ↓reduceIte, Nat.reduceEqDiff, reduceCtorEq, loadK, adr, deref, Ad.fv, Ad.live, fadrK, List.length_cons, List.length_nil, List.drop_zero, List.drop_succ_cons, List.take_succ_cons, List.take_zero, Nat.reduceAdd, Nat.reduceLeDiff, Nat.zero_add, Nat.add_zero, aeqK, agEq, scEq, boxVK, newVK, exc, vc_agg, vc_int, vc_bool, vc_str, vc_ptr, vc_sl, vc_fn, boxOf, adInf, List.reverse_cons, List.reverse_nil, List.nil_append, List.cons_append, extK, Bool.and_true, Bool.true_and, Bool.not_true, Bool.not_false, resT, resVs, resV, true_and, and_true, storeK, spl_nil, spl_z, spl_1, spl_2, spl_3, spl_4, spl_5, spl_6, spl_7, spl_8, scal_int, scal_bool, scal_str, scal_nil, implies_true, Bool.and_self, Post_ret, Post_normal, PostS_ret, PostS_normal, retT_true, retT_false, flat_bool, flat_int, flat_str, List.take_length, decide_true, decide_false, Option.some.injEq, Value.bool.injEq, Value.int.injEq, Bool.false_and, Bool.and_false, not_false_eq_true, not_true_eq_false, toIntK, List.length_set, Nat.reduceMul, Bool.not_eq_true, Bool.not_eq_false, List.all_cons, List.all_nil, exps, fillL, buildK, strK, nilcK, fnK, callVT, List.size_toArray, List.append_nil, List.singleton_append, boxOK, newOK, scal_nil, List.isEmpty_nil, List.isEmpty_cons, mkVK, mkOK, mkCells, zeros_0, zeros_1, zeros_2, zeros_3, zeros_4, List.map_cons, List.map_nil, j0, j4, j5, j6]
      · obtain ⟨j', rfl⟩ : ∃ j', j = j' + 1 := ⟨j - 1, by have := of_decide_eq_true c3; omega⟩
        obtain ⟨c, hc⟩ := byte_at (b := s) (i := j') (by omega)
        have j6' : ((j' + 1 : Nat) : Int) - 1 = (j' : Int) := by omega
        have hix := fun {t : St} {x y : X} => idx_at (s := t) (x := x) (y := y) hc
        have hcb : c.toNat < 256 := c.toNat_lt
        have hvs := valB_succ hc
        have hpw : 0 < (128 : Nat) ^ j' := Nat.pow_pos (by decide)
        have hn1 : (n * 128 + c.toNat % 128) * 128 ^ j' + valB s j' = valB s (i + 1) := by
          rw [Nat.add_mul, ← hv, hvs, Nat.pow_succ, Nat.mul_assoc, Nat.mul_comm 128]
          omega
        have hn2 : n * 128 + c.toNat % 128 ≤ valB s (i + 1) := le_of_mul (p := 128 ^ j') (by omega) hpw
        have t1 : Int.tmod ((c.toNat : Nat) : Int) 128 = ((c.toNat % 128 : Nat) : Int) := rfl
        simp only [go_nil, go_blk, go_skip, go_ret, go_exit, go_seq, go_block, go_reg, go_r0, go_r, go_d0, go_d, go_e0, go_e, box2, Option.isSome_some, Nat.le_refl, go_cond, go_o, go_g, aft_some, cnd_bool, grd_bool, grd_tup, brT_true, brT_false, brT_not, thr_exit, thr_c, thr_nil, stp, stepK, movK, mv1, ex, exv, exvs, upd_some, upd_none, ini, St.val, binK, binV, ofV, pickK, unK, unV, beqK, beq_true, beq_false, if_true, if_false, List.getElem?_cons_zero, List.getElem?_cons_succ, ↓reduceIte, Nat.reduceEqDiff, reduceCtorEq, loadK, adr, deref, Ad.fv, Ad.live, fadrK, List.length_cons, List.length_nil, List.drop_zero, List.drop_succ_cons, List.take_succ_cons, List.take_zero, Nat.reduceAdd, Nat.reduceLeDiff, Nat.zero_add, Nat.add_zero, aeqK, agEq, scEq, boxVK, newVK, exc, vc_agg, vc_int, vc_bool, vc_str, vc_ptr, vc_sl, vc_fn, boxOf, adInf, List.reverse_cons, List.reverse_nil, List.nil_append, List.cons_append, extK, Bool.and_true, Bool.true_and, Bool.not_true, Bool.not_false, resT, resVs, resV, true_and, and_true, storeK, spl_nil, spl_z, spl_1, spl_2, spl_3, spl_4, spl_5, spl_6, spl_7, spl_8, scal_int, scal_bool, scal_str, scal_nil, implies_true, Bool.and_self, Post_ret, Post_normal, PostS_ret, PostS_normal, retT_true, retT_false, flat_bool, flat_int, flat_str, List.take_length, decide_true, decide_false, Option.some.injEq, Value.bool.injEq, Value.int.injEq, Bool.false_and, Bool.and_false, not_false_eq_true, not_true_eq_false, toIntK, List.length_set, Nat.reduceMul, Bool.not_eq_true, Bool.not_eq_false, List.all_cons, List.all_nil, exps, fillL, buildK, strK, nilcK, fnK, callVT, List.size_toArray, List.append_nil, List.singleton_append, boxOK, newOK, scal_nil, List.isEmpty_nil, List.isEmpty_cons, mkVK, mkOK, mkCells, zeros_0, zeros_1, zeros_2, zeros_3, zeros_4, List.map_cons, List.map_nil, j0, j4, j5, j6, j6', hix, ne128, t1, wrap64 ((n : Int) * 128) (by omega) (by omega), wrap64 (((c.toNat : Nat) : Int)) (by omega) (by omega), wrap64 ((n : Int) * 128 + ((c.toNat % 128 : Nat) : Int)) (by omega) (by omega), wrap64 ((j' : Int) - 1) (by omega) (by omega)]
        exact ⟨j', by omega, jH, rfl, by omega, n * 128 + c.toNat % 128, by simp, hn1⟩
      · have : j = 0 := by have := of_decide_eq_false c3; omega
        subst this
        have : n = valB s (i + 1) := by simpa [valB] using hv
        subst this
        exact ⟨jH, rfl⟩
    · rintro t' ⟨jH, j0, j4, j5⟩
      have a59 := fun {m draw t d ts Q} => callT_at (m := m) (draw := draw) (s := t) (d := d) (ts := ts) (Q := Q) (f59 (H := t.H) (n := ((valB s (i + 1) : Nat) : Int)))
      have hsl := fun {t : St} {x y : X} => slc_to (s := t) (x := x) (y := y) his
      have wt := hw.pre hH
      simp only [go_nil, go_blk, go_skip, go_ret, go_exit, go_seq, go_block, go_reg, go_r0, go_r, go_d0, go_d, go_e0, go_e, box2, Option.isSome_some, Nat.le_refl, go_cond, go_o, go_g, aft_some, cnd_bool, grd_bool, grd_tup, brT_true, brT_false, brT_not, thr_exit, thr_c, thr_nil, stp, stepK, movK, mv1, ex, exv, exvs, upd_some, upd_none, ini, St.val, binK, binV, ofV, pickK, unK, unV, beqK, beq_true, beq_false, if_true, if_false, List.getElem?_cons_zero, List.getElem?_cons_succ, ↓reduceIte, Nat.reduceEqDiff, reduceCtorEq, loadK, adr, deref, Ad.fv, Ad.live, fadrK, List.length_cons, List.length_nil, List.drop_zero, List.drop_succ_cons, List.take_succ_cons, List.take_zero, Nat.reduceAdd, Nat.reduceLeDiff, Nat.zero_add, Nat.add_zero, aeqK, agEq, scEq, boxVK, newVK, exc, vc_agg, vc_int, vc_bool, vc_str, vc_ptr, vc_sl, vc_fn, boxOf, adInf, List.reverse_cons, List.reverse_nil, List.nil_append, List.cons_append, extK, Bool.and_true, Bool.true_and, Bool.not_true, Bool.not_false, resT, resVs, resV, true_and, and_true, storeK, spl_nil, spl_z, spl_1, spl_2, spl_3, spl_4, spl_5, spl_6, spl_7, spl_8, scal_int, scal_bool, scal_str, scal_nil, implies_true, Bool.and_self, Post_ret, Post_normal, PostS_ret, PostS_normal, retT_true, retT_false, flat_bool, flat_int, flat_str, List.take_length, decide_true, decide_false, Option.some.injEq, Value.bool.injEq, Value.int.injEq, Bool.false_and, Bool.and_false, not_false_eq_true, not_true_eq_false, toIntK, List.length_set, Nat.reduceMul, Bool.not_eq_true, Bool.not_eq_false, List.all_cons, List.all_nil, exps, fillL, buildK, strK, nilcK, fnK, callVT, List.size_toArray, List.append_nil, List.singleton_append, boxOK, newOK, scal_nil, List.isEmpty_nil, List.isEmpty_cons, mkVK, mkOK, mkCells, zeros_0, zeros_1, zeros_2, zeros_3, zeros_4, List.map_cons, List.map_nil]
      refine go_draw ?_
      simp only [go_nil, go_blk, go_skip, go_ret, go_exit, go_seq, go_block, go_reg, go_r0, go_r, go_d0, go_d, go_e0, go_e, box2, Option.isSome_some, Nat.le_refl, go_cond, go_o, go_g, aft_some, cnd_bool, grd_bool, grd_tup, brT_true, brT_false, brT_not, thr_exit, thr_c, thr_nil, stp, stepK, movK, mv1, ex, exv, exvs, upd_some, upd_none, ini, St.val, binK, binV, ofV, pickK, unK, unV, beqK, beq_true, beq_false, if_true, if_false, List.getElem?_cons_zero, List.getElem?_cons_succ, ↓reduceIte, Nat.reduceEqDiff, reduceCtorEq, loadK, adr, deref, Ad.fv, Ad.live, fadrK, List.length_cons, List.length_nil, List.drop_zero, List.drop_succ_cons, List.take_succ_cons, List.take_zero, Nat.reduceAdd, Nat.reduceLeDiff, Nat.zero_add, Nat.add_zero, aeqK, agEq, scEq, boxVK, newVK, exc, vc_agg, vc_int, vc_bool, vc_str, vc_ptr, vc_sl, vc_fn, boxOf, adInf, List.reverse_cons, List.reverse_nil, List.nil_append, List.cons_append, extK, Bool.and_true, Bool.true_and, Bool.not_true, Bool.not_false, resT, resVs, resV, true_and, and_true, storeK, spl_nil, spl_z, spl_1, spl_2, spl_3, spl_4, spl_5, spl_6, spl_7, spl_8, scal_int, scal_bool, scal_str, scal_nil, implies_true, Bool.and_self, Post_ret, Post_normal, PostS_ret, PostS_normal, retT_true, retT_false, flat_bool, flat_int, flat_str, List.take_length, decide_true, decide_false, Option.some.injEq, Value.bool.injEq, Value.int.injEq, Bool.false_and, Bool.and_false, not_false_eq_true, not_true_eq_false, toIntK, List.length_set, Nat.reduceMul, Bool.not_eq_true, Bool.not_eq_false, List.all_cons, List.all_nil, exps, fillL, buildK, strK, nilcK, fnK, callVT, List.size_toArray, List.append_nil, List.singleton_append, boxOK, newOK, scal_nil, List.isEmpty_nil, List.isEmpty_cons, mkVK, mkOK, mkCells, zeros_0, zeros_1, zeros_2, zeros_3, zeros_4, List.map_cons, List.map_nil, j0, j4, j5, a59, jH, wt, hsl]
      refine ⟨by rfl, ?_⟩
      refine brT.intro (fun c3 => ?_) (fun c3 => ?_) <;> simp only [go_nil, go_blk, go_skip, go_ret, go_exit, go_seq, go_block, go_reg, go_r0, go_r, go_d0, go_d, go_e0, go_e, box2, Option.isSome_some, Nat.le_refl, go_cond, go_o, go_g, aft_some, cnd_bool, grd_bool, grd_tup, brT_true, brT_false, brT_not, thr_exit, thr_c, thr_nil, stp, stepK, movK, mv1, ex, exv, exvs, upd_some, upd_none, ini, St.val, binK, binV, ofV, pickK, unK, unV, beqK, beq_true, beq_false, if_true, if_false, List.getElem?_cons_zero, List.getElem?_cons_succ, ↓reduceIte, Nat.reduceEqDiff, reduceCtorEq, loadK, adr, deref, Ad.fv, Ad.live, fadrK, List.length_cons, List.length_nil, List.drop_zero, List.drop_succ_cons, List.take_succ_cons, List.take_zero, Nat.reduceAdd, Nat.reduceLeDiff, Nat.zero_add, Nat.add_zero, aeqK, agEq, scEq, boxVK, newVK, exc, vc_agg, vc_int, vc_bool, vc_str, vc_ptr, vc_sl, vc_fn, boxOf, adInf, List.reverse_cons, List.reverse_nil, List.nil_append, List.cons_append, extK, Bool.and_true, Bool.true_and, Bool.not_true, Bool.not_false, resT, resVs, resV, true_and, and_true, storeK, spl_nil, spl_z, spl_1, spl_2, spl_3, spl_4, spl_5, spl_6, spl_7, spl_8, scal_int, scal_bool, scal_str, scal_nil, implies_true, Bool.and_self, Post_ret, Post_normal, PostS_ret, PostS_normal, retT_true, retT_false, flat_bool, flat_int, flat_str, List.take_length, decide_true, decide_false, Option.some.injEq, Value.bool.injEq, Value.int.injEq, Bool.false_and, Bool.and_false, not_false_eq_true, not_true_eq_false, toIntK, List.length_set, Nat.reduceMul, Bool.not_eq_true, Bool.not_eq_false, List.all_cons, List.all_nil, exps, fillL, buildK, strK, nilcK, fnK, callVT, List.size_toArray, List.append_nil, List.singleton_append, boxOK, newOK, scal_nil, List.isEmpty_nil, List.isEmpty_cons, mkVK, mkOK, mkCells, zeros_0, zeros_1, zeros_2, zeros_3, zeros_4, List.map_cons, List.map_nil, j0, j4, j5, jH, wrap64 (((i + 1 : Nat) : Int) + 1) (by omega) (by omega)]
      · have hv0 := of_decide_eq_true c3
        have hv : isV s (i + 1) := hv0
        have hr : readV s (valB s (i + 1)) (i + 1) := ⟨by omega, by omega, his, rfl, hv⟩
        rw [rdV_eq hr]
        exact ⟨rfl, pre_take hH⟩
      · have hv0 := of_decide_eq_false c3
        have hv : ¬ isV s (i + 1) := hv0
        refine ⟨hi7, hH, by simp, fun k h1 h2 => ?_⟩
        by_cases e : k = i + 1
        · subst e; exact hv
        · exact hn k (by omega) h2
  · rintro t ⟨hH, hn⟩
    simp only [go_nil, go_blk, go_skip, go_ret, go_exit, go_seq, go_block, go_reg, go_r0, go_r, go_d0, go_d, go_e0, go_e, box2, Option.isSome_some, Nat.le_refl, go_cond, go_o, go_g, aft_some, cnd_bool, grd_bool, grd_tup, brT_true, brT_false, brT_not, thr_exit, thr_c, thr_nil, stp, stepK, movK, mv1, ex, exv, exvs, upd_some, upd_none, ini, St.val, binK, binV, ofV, pickK, unK, unV, beqK, beq_true, beq_false, if_true, if_false, List.getElem?_cons_zero, List.getElem?_cons_succ, ↓reduceIte, Nat.reduceEqDiff, reduceCtorEq, loadK, adr, deref, Ad.fv, Ad.live, fadrK, List.length_cons, List.length_nil, List.drop_zero, List.drop_succ_cons, List.take_succ_cons, List.take_zero, Nat.reduceAdd, Nat.reduceLeDiff, Nat.zero_add, Nat.add_zero, aeqK, agEq, scEq, boxVK, newVK, exc, vc_agg, vc_int, vc_bool, vc_str, vc_ptr, vc_sl, vc_fn, boxOf, adInf, List.reverse_cons, List.reverse_nil, List.nil_append, List.cons_append, extK, Bool.and_true, Bool.true_and, Bool.not_true, Bool.not_false, resT, resVs, resV, true_and, and_true, storeK, spl_nil, spl_z, spl_1, spl_2, spl_3, spl_4, spl_5, spl_6, spl_7, spl_8, scal_int, scal_bool, scal_str, scal_nil, implies_true, Bool.and_self, Post_ret, Post_normal, PostS_ret, PostS_normal, retT_true, retT_false, flat_bool, flat_int, flat_str, List.take_length, decide_true, decide_false, Option.some.injEq, Value.bool.injEq, Value.int.injEq, Bool.false_and, Bool.and_false, not_false_eq_true, not_true_eq_false, toIntK, List.length_set, Nat.reduceMul, Bool.not_eq_true, Bool.not_eq_false, List.all_cons, List.all_nil, exps, fillL, buildK, strK, nilcK, fnK, callVT, List.size_toArray, List.append_nil, List.singleton_append, boxOK, newOK, scal_nil, List.isEmpty_nil, List.isEmpty_cons, mkVK, mkOK, mkCells, zeros_0, zeros_1, zeros_2, zeros_3, zeros_4, List.map_cons, List.map_nil]
    rw [rdV_none hn]
    exact ⟨rfl, pre_take hH⟩

theorem shl7 {d i : Nat} (hd : d < 128) (hi : i ≤ 6) : IntKind.i64.wrap (((d : Nat) : Int) * 2 ^ (min (Int.toNat ((7 * i : Nat) : Int)) IntKind.i64.bits)) = ((d * 128 ^ i : Nat) : Int) := by
  have e : min (Int.toNat ((7 * i : Nat) : Int)) IntKind.i64.bits = 7 * i := by
    rw [Int.toNat_natCast]
    show min (7 * i) 64 = 7 * i
    omega
  have hpow : (128 : Nat) ^ i = 2 ^ (7 * i) := by rw [show (128 : Nat) = 2 ^ 7 by decide, ← Nat.pow_mul]
  have hp : (128 : Nat) ^ i ≤ 128 ^ 6 := Nat.pow_le_pow_right (by decide) hi
  have h6 : (128 : Nat) ^ 6 = 4398046511104 := by decide
  have hm : d * 128 ^ i ≤ 127 * 128 ^ i := Nat.mul_le_mul_right _ (by omega)
  have e2 : ((d : Nat) : Int) * 2 ^ (7 * i) = ((d * 128 ^ i : Nat) : Int) := by rw [hpow]; push_cast; rfl
  rw [e, e2, wrap64 _ (by omega) (by generalize d * 128 ^ i = q at *; omega)]

theorem f97 {H : Hp} {s : ByteArray} (hs : s.size ≤ 4611686018427387904) : Scal EE 97 [.string s] H (.tuple #[.int .i64 ((rdV s).1 : Nat), .int .i64 ((rdV s).2 : Nat)]) := by
  refine scal_ok rfl rfl k97 (by simp [c97]) rfl fun m hw => ?_
  simp only [go_nil, go_blk, go_skip, go_ret, go_exit, go_seq, go_block, go_reg, go_r0, go_r, go_d0, go_d, go_e0, go_e, box2, Option.isSome_some, Nat.le_refl, go_cond, go_o, go_g, aft_some, cnd_bool, grd_bool, grd_tup, brT_true, brT_false, brT_not, thr_exit, thr_c, thr_nil, stp, stepK, movK, mv1, ex, exv, exvs, upd_some, upd_none, ini, St.val, binK, binV, ofV, pickK, unK, unV, beqK, beq_true, beq_false, if_true, if_false, List.getElem?_cons_zero, List.getElem?_cons_succ, ↓reduceIte, Nat.reduceEqDiff, reduceCtorEq, loadK, adr, deref, Ad.fv, Ad.live, fadrK, List.length_cons, List.length_nil, List.drop_zero, List.drop_succ_cons, List.take_succ_cons, List.take_zero, Nat.reduceAdd, Nat.reduceLeDiff, Nat.zero_add, Nat.add_zero, aeqK, agEq, scEq, boxVK, newVK, exc, vc_agg, vc_int, vc_bool, vc_str, vc_ptr, vc_sl, vc_fn, boxOf, adInf, List.reverse_cons, List.reverse_nil, List.nil_append, List.cons_append, extK, Bool.and_true, Bool.true_and, Bool.not_true, Bool.not_false, resT, resVs, resV, true_and, and_true, storeK, spl_nil, spl_z, spl_1, spl_2, spl_3, spl_4, spl_5, spl_6, spl_7, spl_8, scal_int, scal_bool, scal_str, scal_nil, implies_true, Bool.and_self, Post_ret, Post_normal, PostS_ret, PostS_normal, retT_true, retT_false, flat_bool, flat_int, flat_str, List.take_length, decide_true, decide_false, Option.some.injEq, Value.bool.injEq, Value.int.injEq, Bool.false_and, Bool.and_false, not_false_eq_true, not_true_eq_false, toIntK, List.length_set, Nat.reduceMul, Bool.not_eq_true, Bool.not_eq_false, List.all_cons, List.all_nil, exps, fillL, buildK, strK, nilcK, fnK, callVT, List.size_toArray, List.append_nil, List.singleton_append, boxOK, newOK, scal_nil, List.isEmpty_nil, List.isEmpty_cons, mkVK, mkOK, mkCells, zeros_0, zeros_1, zeros_2, zeros_3, zeros_4, List.map_cons, List.map_nil, c97]
  refine go_for 7 (fun i t => H <+: t.H ∧ t.ρ 0 = .val (.string s) ∧ t.ρ 5 = .val (.int .i64 i) ∧ t.ρ 4 = .val (.int .i64 ((valB s i : Nat) : Int)) ∧ i ≤ s.size ∧ ∀ k b, k < i → s[k]? = some b → 128 ≤ b.toNat)
    (fun t => H <+: t.H ∧ ∀ n k, ¬ readV s n k) ?_ ?_ ?_
  · exact ⟨List.prefix_refl _, by simp [upd, ini], by simp [upd], by simp [upd, valB], by omega, fun k b h => by omega⟩
  · rintro i t hi ⟨hH, h0, h5, h4, hil, hb⟩
    have nono : (7 ≤ i ∨ s.size ≤ i) → ∀ n k, ¬ readV s n k := fun h n k hr => by
      obtain ⟨r1, r2, r3, r4, r5⟩ := hr
      obtain ⟨b, hb2⟩ := byte_at (b := s) (i := k - 1) (by omega)
      have h1 := (isV_bits r1 r3 r5).2 b hb2
      have h2 := hb (k - 1) b (by omega) hb2
      omega
    simp only [go_nil, go_blk, go_skip, go_ret, go_exit, go_seq, go_block, go_reg, go_r0, go_r, go_d0, go_d, go_e0, go_e, box2, Option.isSome_some, Nat.le_refl, go_cond, go_o, go_g, aft_some, cnd_bool, grd_bool, grd_tup, brT_true, brT_false, brT_not, thr_exit, thr_c, thr_nil, stp, stepK, movK, mv1, ex, exv, exvs, upd_some, upd_none, ini, St.val, binK, binV, ofV, pickK, unK, unV, beqK, beq_true, beq_false, if_true, if_false, List.getElem?_cons_zero, List.getElem?_cons_succ, ↓reduceIte, Nat.reduceEqDiff, reduceCtorEq, loadK, adr, deref, Ad.fv, Ad.live, fadrK, List.length_cons, List.length_nil, List.drop_zero, List.drop_succ_cons, List.take_succ_cons, List.take_zero, Nat.reduceAdd, Nat.reduceLeDiff, Nat.zero_add, Nat.add_zero, aeqK, agEq, scEq, boxVK, newVK, exc, vc_agg, vc_int, vc_bool, vc_str, vc_ptr, vc_sl, vc_fn, boxOf, adInf, List.reverse_cons, List.reverse_nil, List.nil_append, List.cons_append, extK, Bool.and_true, Bool.true_and, Bool.not_true, Bool.not_false, resT, resVs, resV, true_and, and_true, storeK, spl_nil, spl_z, spl_1, spl_2, spl_3, spl_4, spl_5, spl_6, spl_7, spl_8, scal_int, scal_bool, scal_str, scal_nil, implies_true, Bool.and_self, Post_ret, Post_normal, PostS_ret, PostS_normal, retT_true, retT_false, flat_bool, flat_int, flat_str, List.take_length, decide_true, decide_false, Option.some.injEq, Value.bool.injEq, Value.int.injEq, Bool.false_and, Bool.and_false, not_false_eq_true, not_true_eq_false, toIntK, List.length_set, Nat.reduceMul, Bool.not_eq_true, Bool.not_eq_false, List.all_cons, List.all_nil, exps, fillL, buildK, strK, nilcK, fnK, callVT, List.size_toArray, List.append_nil, List.singleton_append, boxOK, newOK, scal_nil, List.isEmpty_nil, List.isEmpty_cons, mkVK, mkOK, mkCells, zeros_0, zeros_1, zeros_2, zeros_3, zeros_4, List.map_cons, List.map_nil, h0, h4, h5, lenTK]
    refine brT.intro (fun c1 => ?_) (fun c1 => ?_) <;> simp only [go_nil, go_blk, go_skip, go_ret, go_exit, go_seq, go_block, go_reg, go_r0, go_r, go_d0, go_d, go_e0, go_e, box2, Option.isSome_some, Nat.le_refl, go_cond, go_o, go_g, aft_some, cnd_bool, grd_bool, grd_tup, brT_true, brT_false, brT_not, thr_exit, thr_c, thr_nil, stp, stepK, movK, mv1, ex, exv, exvs, upd_some, upd_none, ini, St.val, binK, binV, ofV, pickK, unK, unV, beqK, beq_true, beq_false, if_true, if_false, List.getElem?_cons_zero, List.getElem?_cons_succ, ↓reduceIte, Nat.reduceEqDiff, reduceCtorEq, loadK, adr, deref, Ad.fv, Ad.live, fadrK, List.length_cons, List.length_nil, List.drop_zero, List.drop_succ_cons, List.take_succ_cons, List.take_zero, Nat.reduceAdd, Nat.reduceLeDiff, Nat.zero_add, Nat.add_zero, aeqK, agEq, scEq, boxVK, newVK, exc, vc_agg, vc_int, vc_bool, vc_str, vc_ptr, vc_sl, vc_fn, boxOf, adInf, List.reverse_cons, List.reverse_nil, List.nil_append, List.cons_append, extK, Bool.and_true, Bool.true_and, Bool.not_true, Bool.not_false, resT, resVs, resV, true_and, and_true, storeK, spl_nil, spl_z, spl_1, spl_2, spl_3, spl_4, spl_5, spl_6, spl_7, spl_8, scal_int, scal_bool, scal_str, scal_nil, implies_true, Bool.and_self, Post_ret, Post_normal, PostS_ret, PostS_normal, retT_true, retT_false, flat_bool, flat_int, flat_str, List.take_length, decide_true, decide_false, Option.some.injEq, Value.bool.injEq, Value.int.injEq, Bool.false_and, Bool.and_false, not_false_eq_true, not_true_eq_false, toIntK, List.length_set, Nat.reduceMul, Bool.not_eq_true, Bool.not_eq_false, List.all_cons, List.all_nil, exps, fillL, buildK, strK, nilcK, fnK, callVT, List.size_toArray, List.append_nil, List.singleton_append, boxOK, newOK, scal_nil, List.isEmpty_nil, List.isEmpty_cons, mkVK, mkOK, mkCells, zeros_0, zeros_1, zeros_2, zeros_3, zeros_4, List.map_cons, List.map_nil, c1, h0, h4, h5, lenTK]
    rotate_left
    · exact ⟨hH, nono (.inr (by have := of_decide_eq_false c1; omega))⟩
    refine brT.intro (fun c2 => ?_) (fun c2 => ?_) <;> simp only [go_nil, go_blk, go_skip, go_ret, go_exit, go_seq, go_block, go_reg, go_r0, go_r, go_d0, go_d, go_e0, go_e, box2, Option.isSome_some, Nat.le_refl, go_cond, go_o, go_g, aft_some, cnd_bool, grd_bool, grd_tup, brT_true, brT_false, brT_not, thr_exit, thr_c, thr_nil, stp, stepK, movK, mv1, ex, exv, exvs, upd_some, upd_none, ini, St.val, binK, binV, ofV, pickK, unK, unV, beqK, beq_true, beq_false, if_true, if_false, List.getElem?_cons_zero, List.getElem?_cons_succ, ↓reduceIte, Nat.reduceEqDiff, reduceCtorEq, loadK, adr, deref, Ad.fv, Ad.live, fadrK, List.length_cons, List.length_nil, List.drop_zero, List.drop_succ_cons, List.take_succ_cons, List.take_zero, Nat.reduceAdd, Nat.reduceLeDiff, Nat.zero_add, Nat.add_zero, aeqK, agEq, scEq, boxVK, newVK, exc, vc_agg, vc_int, vc_bool, vc_str, vc_ptr, vc_sl, vc_fn, boxOf, adInf, List.reverse_cons, List.reverse_nil, List.nil_append, List.cons_append, extK, Bool.and_true, Bool.true_and, Bool.not_true, Bool.not_false, resT, resVs, resV, true_and, and_true, storeK, spl_nil, spl_z, spl_1, spl_2, spl_3, spl_4, spl_5, spl_6, spl_7, spl_8, scal_int, scal_bool, scal_str, scal_nil, implies_true, Bool.and_self, Post_ret, Post_normal, PostS_ret, PostS_normal, retT_true, retT_false, flat_bool, flat_int, flat_str, List.take_length, decide_true, decide_false, Option.some.injEq, Value.bool.injEq, Value.int.injEq, Bool.false_and, Bool.and_false, not_false_eq_true, not_true_eq_false, toIntK, List.length_set, Nat.reduceMul, Bool.not_eq_true, Bool.not_eq_false, List.all_cons, List.all_nil, exps, fillL, buildK, strK, nilcK, fnK, callVT, List.size_toArray, List.append_nil, List.singleton_append, boxOK, newOK, scal_nil, List.isEmpty_nil, List.isEmpty_cons, mkVK, mkOK, mkCells, zeros_0, zeros_1, zeros_2, zeros_3, zeros_4, List.map_cons, List.map_nil, c1, c2, h0, h4, h5]
    rotate_left
    · exact ⟨hH, nono (.inl (by have := of_decide_eq_false c2; omega))⟩
    have hi7 : i < 7 := by have := of_decide_eq_true c2; omega
    have his : i < s.size := by have := of_decide_eq_true c1; omega
    obtain ⟨c, hc⟩ := byte_at his
    have hix := fun {t : St} {x y : X} => idx_at (s := t) (x := x) (y := y) hc
    have hcb : c.toNat < 256 := c.toNat_lt
    have t1 := and7u hcb
    have t2 : IntKind.i64.wrap (((c.toNat % 128 : Nat) : Int)) = ((c.toNat % 128 : Nat) : Int) := wrap64 _ (by omega) (by omega)
    have t3 : IntKind.i64.wrap (7 * (i : Int)) = ((7 * i : Nat) : Int) := by rw [wrap64 _ (by omega) (by omega)]; omega
    have t3n : ¬ (((7 * i : Nat) : Int) < 0) := by omega
    have t4 := shl7 (d := c.toNat % 128) (i := i) (by omega) (by omega)
    have t5 := orHi (valB_lt s i) (show c.toNat % 128 < 128 by omega) (show i ≤ 6 by omega)
    have hvs := valB_succ hc
    rw [← hvs] at t5
    have hvm := valB_max s (k := i + 1) (by omega)
    simp only [go_nil, go_blk, go_skip, go_ret, go_exit, go_seq, go_block, go_reg, go_r0, go_r, go_d0, go_d, go_e0, go_e, box2, Option.isSome_some, Nat.le_refl, go_cond, go_o, go_g, aft_some, cnd_bool, grd_bool, grd_tup, brT_true, brT_false, brT_not, thr_exit, thr_c, thr_nil, stp, stepK, movK, mv1, ex, exv, exvs, upd_some, upd_none, ini, St.val, binK, binV, ofV, pickK, unK, unV, beqK, beq_true, beq_false, if_true, if_false, List.getElem?_cons_zero, List.getElem?_cons_succ, ↓reduceIte, Nat.reduceEqDiff, reduceCtorEq, loadK, adr, deref, Ad.fv, Ad.live, fadrK, List.length_cons, List.length_nil, List.drop_zero, List.drop_succ_cons, List.take_succ_cons, List.take_zero, Nat.reduceAdd, Nat.reduceLeDiff, Nat.zero_add, Nat.add_zero, aeqK, agEq, scEq, boxVK, newVK, exc, vc_agg, vc_int, vc_bool, vc_str, vc_ptr, vc_sl, vc_fn, boxOf, adInf, List.reverse_cons, List.reverse_nil, List.nil_append, List.cons_append, extK, Bool.and_true, Bool.true_and, Bool.not_true, Bool.not_false, resT, resVs, resV, true_and, and_true, storeK, spl_nil, spl_z, spl_1, spl_2, spl_3, spl_4, spl_5, spl_6, spl_7, spl_8, scal_int, scal_bool, scal_str, scal_nil, implies_true, Bool.and_self, Post_ret, Post_normal, PostS_ret, PostS_normal, retT_true, retT_false, flat_bool, flat_int, flat_str, List.take_length, decide_true, decide_false, Option.some.injEq, Value.bool.injEq, Value.int.injEq, Bool.false_and, Bool.and_false, not_false_eq_true, not_true_eq_false, toIntK, List.length_set, Nat.reduceMul, Bool.not_eq_true, Bool.not_eq_false, List.all_cons, List.all_nil, exps, fillL, buildK, strK, nilcK, fnK, callVT, List.size_toArray, List.append_nil, List.singleton_append, boxOK, newOK, scal_nil, List.isEmpty_nil, List.isEmpty_cons, mkVK, mkOK, mkCells, zeros_0, zeros_1, zeros_2, zeros_3, zeros_4, List.map_cons, List.map_nil, h0, h4, h5, hix, t1, t2, t3, t3n, t4, t5]
    refine brT.intro (fun c3 => ?_) (fun c3 => ?_) <;> simp only [go_nil, go_blk, go_skip, go_ret, go_exit, go_seq, go_block, go_reg, go_r0, go_r, go_d0, go_d, go_e0, go_e, box2, Option.isSome_some, Nat.le_refl, go_cond, go_o, go_g, aft_some, cnd_bool, grd_bool, grd_tup, brT_true, brT_false, brT_not, thr_exit, thr_c, thr_nil, stp, stepK, movK, mv1, ex, exv, exvs, upd_some, upd_none, ini, St.val, binK, binV, ofV, pickK, unK, unV, beqK, beq_true, beq_false, if_true, if_false, List.getElem?_cons_zero, List.getElem?_cons_succ, ↓reduceIte, Nat.reduceEqDiff, reduceCtorEq, loadK, adr, deref, Ad.fv, Ad.live, fadrK, List.length_cons, List.length_nil, List.drop_zero, List.drop_succ_cons, List.take_succ_cons, List.take_zero, Nat.reduceAdd, Nat.reduceLeDiff, Nat.zero_add, Nat.add_zero, aeqK, agEq, scEq, boxVK, newVK, exc, vc_agg, vc_int, vc_bool, vc_str, vc_ptr, vc_sl, vc_fn, boxOf, adInf, List.reverse_cons, List.reverse_nil, List.nil_append, List.cons_append, extK, Bool.and_true, Bool.true_and, Bool.not_true, Bool.not_false, resT, resVs, resV, true_and, and_true, storeK, spl_nil, spl_z, spl_1, spl_2, spl_3, spl_4, spl_5, spl_6, spl_7, spl_8, scal_int, scal_bool, scal_str, scal_nil, implies_true, Bool.and_self, Post_ret, Post_normal, PostS_ret, PostS_normal, retT_true, retT_false, flat_bool, flat_int, flat_str, List.take_length, decide_true, decide_false, Option.some.injEq, Value.bool.injEq, Value.int.injEq, Bool.false_and, Bool.and_false, not_false_eq_true, not_true_eq_false, toIntK, List.length_set, Nat.reduceMul, Bool.not_eq_true, Bool.not_eq_false, List.all_cons, List.all_nil, exps, fillL, buildK, strK, nilcK, fnK, callVT, List.size_toArray, List.append_nil, List.singleton_append, boxOK, newOK, scal_nil, List.isEmpty_nil, List.isEmpty_cons, mkVK, mkOK, mkCells, zeros_0, zeros_1, zeros_2, zeros_3, zeros_4, List.map_cons, List.map_nil, c3, h0, h4, h5, wrap64 ((i : Int) + 1) (by omega) (by omega)]
    · have hlt : c.toNat < 128 := by have := of_decide_eq_true c3; omega
      have a60 := fun {m draw t d ts Q} => callT_at (m := m) (draw := draw) (s := t) (d := d) (ts := ts) (Q := Q) (f60 (H := t.H) (n := ((valB s (i + 1) : Nat) : Int)))
      have hsl : ∀ {t : St} {x y : X}, exv t.ρ x = some (.string s) → exv t.ρ y = some (.int .i64 ((i : Int) + 1)) → slcSK t x none (some y) = some (.val (.string (s.extract 0 (i + 1))), t) := fun {t x y} hx hy => slc_to (k := i + 1) (by omega) hx (by rw [hy]; rfl)
      have wt := hw.pre hH
      refine go_draw ?_
      simp only [go_nil, go_blk, go_skip, go_ret, go_exit, go_seq, go_block, go_reg, go_r0, go_r, go_d0, go_d, go_e0, go_e, box2, Option.isSome_some, Nat.le_refl, go_cond, go_o, go_g, aft_some, cnd_bool, grd_bool, grd_tup, brT_true, brT_false, brT_not, thr_exit, thr_c, thr_nil, stp, stepK, movK, mv1, ex, exv, exvs, upd_some, upd_none, ini, St.val, binK, binV, ofV, pickK, unK, unV, beqK, beq_true, beq_false, if_true, if_false, List.getElem?_cons_zero, List.getElem?_cons_succ, ↓reduceIte, Nat.reduceEqDiff, reduceCtorEq, loadK, adr, deref, Ad.fv, Ad.live, fadrK, List.length_cons, List.length_nil, List.drop_zero, List.drop_succ_cons, List.take_succ_cons, List.take_zero, Nat.reduceAdd, Nat.reduceLeDiff, Nat.zero_add, Nat.add_zero, aeqK, agEq, scEq, boxVK, newVK, exc, vc_agg, vc_int, vc_bool, vc_str, vc_ptr, vc_sl, vc_fn, boxOf, adInf, List.reverse_cons, List.reverse_nil, List.nil_append, List.cons_append, extK, Bool.and_true, Bool.true_and, Bool.not_true, Bool.not_false, resT, resVs, resV, true_and, and_true, storeK, spl_nil, spl_z, spl_1, spl_2, spl_3, spl_4, spl_5, spl_6, spl_7, spl_8, scal_int, scal_bool, scal_str, scal_nil, implies_true, Bool.and_self, Post_ret, Post_normal, PostS_ret, PostS_normal, retT_true, retT_false, flat_bool, flat_int, flat_str, List.take_length, decide_true, decide_false, Option.some.injEq, Value.bool.injEq, Value.int.injEq, Bool.false_and, Bool.and_false, not_false_eq_true, not_true_eq_false, toIntK, List.length_set, Nat.reduceMul, Bool.not_eq_true, Bool.not_eq_false, List.all_cons, List.all_nil, exps, fillL, buildK, strK, nilcK, fnK, callVT, List.size_toArray, List.append_nil, List.singleton_append, boxOK, newOK, scal_nil, List.isEmpty_nil, List.isEmpty_cons, mkVK, mkOK, mkCells, zeros_0, zeros_1, zeros_2, zeros_3, zeros_4, List.map_cons, List.map_nil, h0, h4, h5, a60, wt, hsl, wrap64 ((i : Int) + 1) (by omega) (by omega)]
      refine ⟨by rfl, ?_⟩
      refine brT.intro (fun c4 => ?_) (fun c4 => ?_) <;> simp only [go_nil, go_blk, go_skip, go_ret, go_exit, go_seq, go_block, go_reg, go_r0, go_r, go_d0, go_d, go_e0, go_e, box2, Option.isSome_some, Nat.le_refl, go_cond, go_o, go_g, aft_some, cnd_bool, grd_bool, grd_tup, brT_true, brT_false, brT_not, thr_exit, thr_c, thr_nil, stp, stepK, movK, mv1, ex, exv, exvs, upd_some, upd_none, ini, St.val, binK, binV, ofV, pickK, unK, unV, beqK, beq_true, beq_false, if_true, if_false, List.getElem?_cons_zero, List.getElem?_cons_succ, ↓reduceIte, Nat.reduceEqDiff, reduceCtorEq, loadK, adr, deref, Ad.fv, Ad.live, fadrK, List.length_cons, List.length_nil, List.drop_zero, List.drop_succ_cons, List.take_succ_cons, List.take_zero, Nat.reduceAdd, Nat.reduceLeDiff, Nat.zero_add, Nat.add_zero, aeqK, agEq, scEq, boxVK, newVK, exc, vc_agg, vc_int, vc_bool, vc_str, vc_ptr, vc_sl, vc_fn, boxOf, adInf, List.reverse_cons, List.reverse_nil, List.nil_append, List.cons_append, extK, Bool.and_true, Bool.true_and, Bool.not_true, Bool.not_false, resT, resVs, resV, true_and, and_true, storeK, spl_nil, spl_z, spl_1, spl_2, spl_3, spl_4, spl_5, spl_6, spl_7, spl_8, scal_int, scal_bool, scal_str, scal_nil, implies_true, Bool.and_self, Post_ret, Post_normal, PostS_ret, PostS_normal, retT_true, retT_false, flat_bool, flat_int, flat_str, List.take_length, decide_true, decide_false, Option.some.injEq, Value.bool.injEq, Value.int.injEq, Bool.false_and, Bool.and_false, not_false_eq_true, not_true_eq_false, toIntK, List.length_set, Nat.reduceMul, Bool.not_eq_true, Bool.not_eq_false, List.all_cons, List.all_nil, exps, fillL, buildK, strK, nilcK, fnK, callVT, List.size_toArray, List.append_nil, List.singleton_append, boxOK, newOK, scal_nil, List.isEmpty_nil, List.isEmpty_cons, mkVK, mkOK, mkCells, zeros_0, zeros_1, zeros_2, zeros_3, zeros_4, List.map_cons, List.map_nil, h0, h4, h5, wrap64 ((i : Int) + 1) (by omega) (by omega)]
      · have hv0 := of_decide_eq_true c4
        have hv : isV s (i + 1) := hv0
        have hr : readV s (valB s (i + 1)) (i + 1) := ⟨by omega, by omega, by omega, rfl, hv⟩
        rw [rdV_eq hr]
        exact ⟨rfl, pre_take hH⟩
      · have hv0 := of_decide_eq_false c4
        have hv : ¬ isV s (i + 1) := hv0
        have hn : ∀ n k, ¬ readV s n k := fun n k hr => by
          obtain ⟨r1, r2, r3, r4, r5⟩ := hr
          have hb2 := isV_bits r1 r3 r5
          rcases Nat.lt_trichotomy k (i + 1) with e | e | e
          · obtain ⟨b, hb3⟩ := byte_at (b := s) (i := k - 1) (by omega)
            have h1 := hb2.2 b hb3
            have h2 := hb (k - 1) b (by omega) hb3
            omega
          · subst e; exact hv r5
          · have := hb2.1 i c (by omega) hc
            omega
        rw [rdV_none hn]
        exact ⟨rfl, pre_take hH⟩
    · have hge : 128 ≤ c.toNat := by have := of_decide_eq_false c3; omega
      refine ⟨hi7, hH, by simp, by omega, fun k b hk hkb => ?_⟩
      by_cases e : k = i
      · subst e
        rw [hc] at hkb
        cases hkb
        exact hge
      · exact hb k b (by omega) hkb
  · rintro t ⟨hH, hn⟩
    simp only [go_nil, go_blk, go_skip, go_ret, go_exit, go_seq, go_block, go_reg, go_r0, go_r, go_d0, go_d, go_e0, go_e, box2, Option.isSome_some, Nat.le_refl, go_cond, go_o, go_g, aft_some, cnd_bool, grd_bool, grd_tup, brT_true, brT_false, brT_not, thr_exit, thr_c, thr_nil, stp, stepK, movK, mv1, ex, exv, exvs, upd_some, upd_none, ini, St.val, binK, binV, ofV, pickK, unK, unV, beqK, beq_true, beq_false, if_true, if_false, List.getElem?_cons_zero, List.getElem?_cons_succ, ↓reduceIte, Nat.reduceEqDiff, reduceCtorEq, loadK, adr, deref, Ad.fv, Ad.live, fadrK, List.length_cons, List.length_nil, List.drop_zero, List.drop_succ_cons, List.take_succ_cons, List.take_zero, Nat.reduceAdd, Nat.reduceLeDiff, Nat.zero_add, Nat.add_zero, aeqK, agEq, scEq, boxVK, newVK, exc, vc_agg, vc_int, vc_bool, vc_str, vc_ptr, vc_sl, vc_fn, boxOf, adInf, List.reverse_cons, List.reverse_nil, List.nil_append, List.cons_append, extK, Bool.and_true, Bool.true_and, Bool.not_true, Bool.not_false, resT, resVs, resV, true_and, and_true, storeK, spl_nil, spl_z, spl_1, spl_2, spl_3, spl_4, spl_5, spl_6, spl_7, spl_8, scal_int, scal_bool, scal_str, scal_nil, implies_true, Bool.and_self, Post_ret, Post_normal, PostS_ret, PostS_normal, retT_true, retT_false, flat_bool, flat_int, flat_str, List.take_length, decide_true, decide_false, Option.some.injEq, Value.bool.injEq, Value.int.injEq, Bool.false_and, Bool.and_false, not_false_eq_true, not_true_eq_false, toIntK, List.length_set, Nat.reduceMul, Bool.not_eq_true, Bool.not_eq_false, List.all_cons, List.all_nil, exps, fillL, buildK, strK, nilcK, fnK, callVT, List.size_toArray, List.append_nil, List.singleton_append, boxOK, newOK, scal_nil, List.isEmpty_nil, List.isEmpty_cons, mkVK, mkOK, mkCells, zeros_0, zeros_1, zeros_2, zeros_3, zeros_4, List.map_cons, List.map_nil]
    rw [rdV_none hn]
    exact ⟨rfl, pre_take hH⟩
end Go.Proofs.Ytjepmnmakemfoaa.Ev

/- Terms: the program's way. -/
namespace Go.Proofs.Ytjepmnmakemfoaa.Ev
set_option linter.all false
open Go
set_option maxRecDepth 4000

/-- The number at a place; -1 without one. -/
noncomputable def vaN (s : ByteArray) (a : Nat) : Int := if (rdV (rest s a)).2 = 0 then -1 else ((rdV (rest s a)).1 : Nat)
theorem f88 {H : Hp} {s : ByteArray} {a : Nat} (hs : s.size ≤ 4611686018427387904) (ha : a ≤ s.size) : Scal EE 88 [.string s, .int .i64 a] H (.tuple #[.int .i64 (vaN s a), .int .i64 ((a + (rdV (rest s a)).2 : Nat) : Int)]) := by
  refine scal_ok rfl rfl k88 (by simp [c88]) rfl fun m hw => ?_
  have hsl := fun {t : St} {x y : X} => slc_rest (s := t) (x := x) (y := y) ha
  have hrs := rest_size s a
  have hr := rdV_le (rest s a)
  have a97 := fun {m draw t d ts Q} => callT_at (m := m) (draw := draw) (s := t) (d := d) (ts := ts) (Q := Q) (f97 (H := H) (s := rest s a) (by omega))
  simp only [go_sem, ↓reduceIte, Nat.reduceEqDiff, reduceCtorEq, Nat.reduceAdd, Nat.reduceLeDiff, Nat.reduceMul, c88, hsl, a97, hw, List.getElem?_toArray, ofV]
  refine brT.intro (fun h => ?_) (fun h => ?_) <;> simp only [go_sem, ↓reduceIte, Nat.reduceEqDiff, reduceCtorEq, Nat.reduceAdd, Nat.reduceLeDiff, Nat.reduceMul, wrap64 ((a : Int) + (((rdV (rest s a)).2 : Nat) : Int)) (by omega) (by omega)]
  · have h0 : (rdV (rest s a)).2 = 0 := by have := of_decide_eq_true h; omega
    unfold vaN
    rw [if_pos h0, h0]
    rfl
  · have h0 : ¬ (rdV (rest s a)).2 = 0 := by have := of_decide_eq_false h; omega
    unfold vaN
    rw [if_neg h0]
    rfl

end Go.Proofs.Ytjepmnmakemfoaa.Ev

/- Marks, and what many texts need: from round 6. -/
namespace Go.Proofs.Ytjepmnmakemfoaa.Ev
set_option linter.all false
open Go
set_option maxRecDepth 4000

theorem app_size (a b : ByteArray) : (a ++ b).size = a.size + b.size := ByteArray.size_append
/-- A function that leaves memory as it is and answers so. -/
def ScalP (E : Env) (f : Nat) (vs : List Value) (H : Hp) (P : Value → Prop) : Prop := ∀ m : Md, Wr m H → Fun E m f vs H fun r H' => P r ∧ H' = H
theorem scalP_ok {E : Env} {f : Nat} {cf : CF} {vs : List Value} {H : Hp} {P : Value → Prop} (ht : E.tr f = true) (hp : E.prim f = none) (hf : E.fns f = some cf) (hl : vs.length ≤ cf.nt)
    (h : ∀ m : Md, Wr m H → go E m [.c cf.body] { ρ := ini vs, gn := 0, H := H } (Post cf.res true H fun r H' => P r ∧ H' = H)) : ScalP E f vs H P :=
  fun m hw => fun_ok ht hp hf hl (h _ hw)

theorem callT_now {E : Env} {m : Md} {f : Nat} {vs : List Value} {P : Value → Hp → Prop} {s : St} {d : Option Nat} {ts : List Tk} {Q : Ex → St → Prop} (h : Fun E m f vs s.H P)
    (hq : ∀ r H', P r H' → go E m ts { s with H := H', ρ := upd s.ρ d (.val r) } Q) : callT E m false f (some vs) s d ts Q := by
  unfold callT opt
  exact h.mono hq

def FreshS {α : Type} (enc : α → List Value) (esz : Nat) (H : Hp) (v : Value) (H' : Hp) (l : List α) : Prop := H <+: H' ∧ Sl (En enc) esz H' v l ∧ OwnS H.length v
/-- Rows as long as before. -/
def SL (H H' : Hp) : Prop := H'.length = H.length ∧ ∀ (j : Nat) (o : List Value), H[j]? = some o → ∃ o' : List Value, H'[j]? = some o' ∧ o'.length = o.length
theorem SL.refl (H : Hp) : SL H H := ⟨rfl, fun j o h => ⟨o, h, rfl⟩⟩
theorem SL.trans {H H' H'' : Hp} (h : SL H H') (k : SL H' H'') : SL H H'' := ⟨k.1.trans h.1, fun j o ho => by
  obtain ⟨o', h1, h2⟩ := h.2 j o ho
  obtain ⟨o'', k1, k2⟩ := k.2 j o' h1
  exact ⟨o'', k1, k2.trans h2⟩⟩
theorem SL.set {H : Hp} {id : Nat} {o o' : List Value} (ho : H[id]? = some o) (hl : o'.length = o.length) : SL H (H.set id o') := ⟨by simp, fun j p hp => by
  by_cases e : id = j
  · subst e
    rw [ho] at hp
    cases hp
    exact ⟨o', List.getElem?_set_self (List.getElem?_eq_some_iff.1 ho).1, hl⟩
  · exact ⟨p, by rw [List.getElem?_set_ne e]; exact hp, rfl⟩⟩
theorem Sl.sl {α : Type} {esz : Nat} {H H' : Hp} {v : Value} {l : List α} (h : Sl (fun _ _ => True) esz H v l) (hs : SL H H') : Sl (fun (_ : α) _ => True) esz H' v l := by
  rcases h with ⟨rfl, rfl⟩ | ⟨id, off, cap, o, rfl, ho, hc, hn, hrm, hr⟩
  · exact .inl ⟨rfl, rfl⟩
  · obtain ⟨o', h1, h2⟩ := hs.2 id o ho
    exact .inr ⟨id, off, cap, o', rfl, h1, by rw [h2]; exact hc, hn, hrm, fun _ _ _ => trivial⟩
theorem pre_keep {H H1 H2 : Hp} (h : H <+: H1) (hk : ∀ j, j < H.length → H2[j]? = H1[j]?) (hl : H1.length ≤ H2.length) : H <+: H2 := by
  rw [List.prefix_iff_eq_take]
  refine List.ext_getElem? fun j => ?_
  rw [List.getElem?_take]
  split
  · rename_i hj
    rw [hk j hj, pre_get h hj]
  · rw [List.getElem?_eq_none (by omega)]
theorem own_ge {N : Nat} {v : Value} (h : OwnS N v) : ∀ j ∈ idsOf v, N ≤ j := fun j hj => by
  rcases h with rfl | ⟨id, e, ln, cap, rfl, hid⟩
  · simp [idsOf] at hj
  · simp [idsOf] at hj; omega
theorem own_notin {x N : Nat} {v : Value} (h : OwnS N v) (hx : x < N) : x ∉ idsOf v := fun hm => by have := own_ge h x hm; omega
theorem Sl.keep {α : Type} {R : α → List Value → Prop} {esz : Nat} {H H' : Hp} {v w : Value} {l : List α} (h : Sl R esz H v l) (hd : ∀ j ∈ idsOf v, j ∉ idsOf w) (hf : ∀ j, j ∉ idsOf w → H'[j]? = H[j]?) : Sl R esz H' v l :=
  h.frame (fun _ _ _ h => h) fun id off e len cap hv => hf id (hd id (by subst hv; simp [idsOf]))

end Go.Proofs.Ytjepmnmakemfoaa.Ev

/- Tables: right ones. -/
namespace Go.Proofs.Ytjepmnmakemfoaa.Ev
set_option linter.all false
open Go
set_option maxRecDepth 4000

abbrev Rw := Int × Int × Int
def eRw (z : Rw) : List Value := [.int .i64 z.1, .int .i64 z.2.1, .int .i64 z.2.2]
def vRw (z : Rw) : Value := .agg #[.int .i64 z.1, .int .i64 z.2.1, .int .i64 z.2.2]
abbrev SlRw (H : Hp) (v : Value) (l : List Rw) : Prop := Sl (En eRw) 3 H v l
def inB (a b c : Int) : Bool := decide (a ≥ b) && decide (a ≤ c)
theorem inB_t {a b c : Int} : inB a b c = true ↔ b ≤ a ∧ a ≤ c := by simp [inB]
theorem f52i {H : Hp} {a b c : Int} : Scal EE 52 [.int .i64 a, .int .i64 b, .int .i64 c] H (.bool (inB a b c)) := f52
theorem f55i {H : Hp} {a b c : Int} : Scal EE 55 [.int .i64 a, .int .i64 b, .int .i64 c] H (.bool (inB a b c)) := f55
theorem f54i {H : Hp} {a : Int} : Scal EE 54 [.int .i64 a] H (.bool (inB a 0 99)) := by
  refine scal_ok rfl rfl k54 (by simp [c54]) rfl fun m hw => ?_
  have a55 := fun {a b c : Int} {m draw t d ts Q} => callT_at (m := m) (draw := draw) (s := t) (d := d) (ts := ts) (Q := Q) (f55i (H := H) (a := a) (b := b) (c := c))
  simp only [go_sem, ↓reduceIte, Nat.reduceEqDiff, reduceCtorEq, Nat.reduceAdd, Nat.reduceLeDiff, Nat.reduceMul, c54, a55, hw]
theorem f56i {H : Hp} {a : Int} : Scal EE 56 [.int .i64 a] H (.bool (inB a 1 1000000)) := by
  refine scal_ok rfl rfl k56 (by simp [c56]) rfl fun m hw => ?_
  have a55 := fun {a b c : Int} {m draw t d ts Q} => callT_at (m := m) (draw := draw) (s := t) (d := d) (ts := ts) (Q := Q) (f55i (H := H) (a := a) (b := b) (c := c))
  simp only [go_sem, ↓reduceIte, Nat.reduceEqDiff, reduceCtorEq, Nat.reduceAdd, Nat.reduceLeDiff, Nat.reduceMul, c56, a55, hw]
def rowOkB (z : Rw) : Bool := inB z.1 0 99 && (inB z.2.1 1 1000 && inB z.2.2 1 1000000)
def ltR (a b : Rw) : Prop := a.1 < b.1 ∨ (a.1 = b.1 ∧ a.2.1 < b.2.1)
def keysR (l : List Rw) : List Int := l.map (·.2.2)
/-- A row that is right, behind the one ahead of it. -/
def RowAt (l : List Rw) (i : Nat) : Prop := ∀ z, l[i]? = some z → rowOkB z = true ∧ (∀ z', 0 < i → l[i - 1]? = some z' → ltR z' z) ∧ z.2.2 ∉ keysR (l.take i)
def TbOk (l : List Rw) : Prop := l.length ≤ 20 ∧ ∀ i, i < l.length → RowAt l i
open Classical in
noncomputable def tbOk (l : List Rw) : Bool := decide (TbOk l)
theorem tbOk_t {l : List Rw} : tbOk l = true ↔ TbOk l := by unfold tbOk; simp
theorem tbOk_yes {l : List Rw} (h : TbOk l) : tbOk l = true := tbOk_t.2 h
theorem tbOk_no {l : List Rw} (h : ¬ TbOk l) : tbOk l = false := by
  cases h2 : tbOk l with
  | false => rfl
  | true => exact absurd (tbOk_t.1 h2) h
theorem rowAt_at {l : List Rw} {i : Nat} (hi : i < l.length) : RowAt l i ↔ rowOkB l[i] = true ∧ (∀ h : 0 < i, ltR (l[i - 1]'(by omega)) l[i]) ∧ l[i].2.2 ∉ keysR (l.take i) := by
  unfold RowAt
  constructor
  · intro h
    obtain ⟨h1, h2, h3⟩ := h _ (List.getElem?_eq_getElem hi)
    exact ⟨h1, fun h0 => h2 _ h0 (List.getElem?_eq_getElem (by omega)), h3⟩
  · rintro ⟨h1, h2, h3⟩ row hr
    rw [List.getElem?_eq_getElem hi] at hr
    cases hr
    refine ⟨h1, fun row' h0 hr' => ?_, h3⟩
    rw [List.getElem?_eq_getElem (by omega)] at hr'
    cases hr'
    exact h2 h0
theorem keys_succ {l : List Rw} {i : Nat} {k : Int} (hi : i < l.length) (h : k ∉ keysR (l.take i)) (hx : l[i].2.2 ≠ k) : k ∉ keysR (l.take (i + 1)) := by
  rw [List.take_succ_eq_append_getElem hi]
  simp only [keysR, List.map_append, List.mem_append, List.map_cons, List.map_nil, List.mem_singleton, not_or] at h ⊢
  exact ⟨h, fun e => hx e.symm⟩
theorem keys_at {l : List Rw} {i j : Nat} (hj : j < i) (hi : i ≤ l.length) : (l[j]'(by omega)).2.2 ∈ keysR (l.take i) := by
  refine List.mem_map.2 ⟨l[j]'(by omega), ?_, rfl⟩
  refine List.mem_iff_getElem.2 ⟨j, by rw [List.length_take]; omega, by rw [List.getElem_take]⟩

theorem f86 {H : Hp} {w : Rw} {t : Int} {id : Nat} (hid : H[id]? = some [.int .i64 t]) : Scal EE 86 [vRw w, .pointer (some ⟨id, 0, some 1⟩)] H (.bool (decide (w.2.2 = t))) := by
  refine scal_ok rfl rfl k86 (by simp [c86]) rfl fun m hw => ?_
  unfold vRw
  simp only [go_sem, ↓reduceIte, Nat.reduceEqDiff, reduceCtorEq, Nat.reduceAdd, Nat.reduceLeDiff, Nat.reduceMul, c86, hid]
def keyIn (l : List Rw) (t : Int) : Bool := decide (t ∈ keysR l)
theorem f96 {H : Hp} {v : Value} {l : List Rw} {t : Int} {id : Nat} (hl : SlRw H v l) (hid : H[id]? = some [.int .i64 t]) : ScalP EE 96 [v, .func (.func 86) #[] #[.pointer (some ⟨id, 0, some 1⟩)]] H fun r => ∃ n : Int, r = .int .i64 n ∧ (0 ≤ n ↔ t ∈ keysR l) := by
  refine scalP_ok rfl rfl k96 (by simp [c96]) fun m hw => ?_
  have hroom := hl.room
  simp only [go_sem, ↓reduceIte, Nat.reduceEqDiff, reduceCtorEq, Nat.reduceAdd, Nat.reduceLeDiff, Nat.reduceMul, c96, hl.len]
  refine go_for l.length (fun i s => s.H = H ∧ s.ρ 0 = .val v ∧ s.ρ 1 = .val (.func (.func 86) #[] #[.pointer (some ⟨id, 0, some 1⟩)]) ∧ s.ρ 7 = .val (.int .i64 l.length) ∧ s.ρ 8 = .val (.int .i64 i) ∧ t ∉ keysR (l.take i)) (fun s => s.H = H ∧ t ∉ keysR l) (by simp [upd, ini, keysR]) ?_ ?_
  · rintro i s hi ⟨hH, k0, k1, k7, k8, hn⟩
    simp only [go_sem, ↓reduceIte, Nat.reduceEqDiff, reduceCtorEq, Nat.reduceAdd, Nat.reduceLeDiff, Nat.reduceMul, k0, k1, k7, k8]
    refine brT.intro (fun q1 => ?_) (fun q1 => ?_) <;> simp only [go_sem, ↓reduceIte, Nat.reduceEqDiff, reduceCtorEq, Nat.reduceAdd, Nat.reduceLeDiff, Nat.reduceMul, k0, k1, k7, k8]
    · have hil : i < l.length := by have := of_decide_eq_true q1; omega
      obtain ⟨id2, p, o2, ho, hr, hp, hia⟩ := hl.elem (List.getElem?_eq_getElem hil)
      unfold En at hr
      have a86 := fun {m draw t' d ts Q} => callT_at (m := m) (draw := draw) (s := t') (d := d) (ts := ts) (Q := Q) (f86 (w := l[i]) hid)
      unfold vRw at a86
      simp only [go_sem, ↓reduceIte, Nat.reduceEqDiff, reduceCtorEq, Nat.reduceAdd, Nat.reduceLeDiff, Nat.reduceMul, k0, k1, k7, k8, hia, hH, ho, hr, hp, eRw, a86, hw]
      refine brT.intro (fun q2 => ?_) (fun q2 => ?_) <;> simp only [go_sem, ↓reduceIte, Nat.reduceEqDiff, reduceCtorEq, Nat.reduceAdd, Nat.reduceLeDiff, Nat.reduceMul, k0, k1, k7, k8, wrap64 ((i : Int) + 1) (by omega) (by omega)]
      · have q2' := of_decide_eq_true q2
        refine ⟨_, rfl, fun _ => ?_, fun _ => by omega⟩
        exact List.mem_map.2 ⟨l[i], List.getElem_mem hil, q2'⟩
      · exact ⟨hil, by simp, keys_succ hil hn (of_decide_eq_false q2)⟩
    · have : i = l.length := by have := of_decide_eq_false q1; omega
      subst this
      rw [List.take_length] at hn
      exact ⟨hH, hn⟩
  · rintro s ⟨hH, hn⟩
    simp only [go_sem, ↓reduceIte, Nat.reduceEqDiff, reduceCtorEq, Nat.reduceAdd, Nat.reduceLeDiff, Nat.reduceMul, hH]
    exact ⟨-1, rfl, fun h => absurd h (by decide), fun h => absurd h hn⟩
theorem f85 {H : Hp} {v : Value} {l : List Rw} {t : Int} {id : Nat} (hl : SlRw H v l) (hid : H[id]? = some [.int .i64 t]) : Scal EE 85 [v, .func (.func 86) #[] #[.pointer (some ⟨id, 0, some 1⟩)]] H (.bool (keyIn l t)) := by
  refine scal_ok rfl rfl k85 (by simp [c85]) rfl fun m hw => ?_
  simp only [go_sem, ↓reduceIte, Nat.reduceEqDiff, reduceCtorEq, Nat.reduceAdd, Nat.reduceLeDiff, Nat.reduceMul, c85]
  refine callT_to (fun m' h => f96 hl hid m' h) rfl hw fun r H' ⟨⟨n, e, hn⟩, e2⟩ => ?_
  subst e; subst e2
  simp only [go_sem, ↓reduceIte, Nat.reduceEqDiff, reduceCtorEq, Nat.reduceAdd, Nat.reduceLeDiff, Nat.reduceMul]
  unfold keyIn
  congr 2
  exact propext hn
theorem f58 {H : Hp} {v : Value} {l : List Rw} {t : Int} (hl : SlRw H v l) : Scal EE 58 [v, .int .i64 t] H (.bool (keyIn l t)) := by
  refine scal_ok rfl rfl k58 (by simp [c58]) rfl fun m hw => ?_
  have p0 : H <+: H ++ [[.int .i64 t]] := List.prefix_append _ _
  have a85 := fun {m draw t' d ts Q} => callT_at (m := m) (draw := draw) (s := t') (d := d) (ts := ts) (Q := Q) (f85 (t := t) (id := H.length) (hl.pre p0) (by simp))
  simp only [go_sem, ↓reduceIte, Nat.reduceEqDiff, reduceCtorEq, Nat.reduceAdd, Nat.reduceLeDiff, Nat.reduceMul, c58, a85, hw.pre p0]
  simp

theorem f16 {H : Hp} {v : Value} {l : List Rw} (hl : SlRw H v l) : Scal EE 16 [v] H (.bool (tbOk l)) := by
  refine scal_ok rfl rfl k16 (by simp [c16]) rfl fun m hw => ?_
  have hroom := hl.room
  have a52 := fun {a b c : Int} {m draw t d ts Q} => callT_at (m := m) (draw := draw) (s := t) (d := d) (ts := ts) (Q := Q) (f52i (H := H) (a := a) (b := b) (c := c))
  simp only [go_sem, ↓reduceIte, Nat.reduceEqDiff, reduceCtorEq, Nat.reduceAdd, Nat.reduceLeDiff, Nat.reduceMul, c16, hl.len]
  refine brT.intro (fun q0 => ?_) (fun q0 => ?_) <;> simp only [go_sem, ↓reduceIte, Nat.reduceEqDiff, reduceCtorEq, Nat.reduceAdd, Nat.reduceLeDiff, Nat.reduceMul]
  · rw [tbOk_no fun h => by have := h.1; have := of_decide_eq_true q0; omega]
  have q0' := of_decide_eq_false q0
  refine go_for l.length (fun i s => s.H = H ∧ s.ρ 0 = .val v ∧ s.ρ 3 = .val (.int .i64 i) ∧ ∀ j, j < i → RowAt l j)
    (fun s => s.H = H ∧ ∀ j, j < l.length → RowAt l j) ?_ ?_ ?_
  · exact ⟨rfl, by simp [upd, ini], by simp [upd], fun j hj => by omega⟩
  · rintro i s hi ⟨hH, k0, k3, kok⟩
    simp only [go_sem, ↓reduceIte, Nat.reduceEqDiff, reduceCtorEq, Nat.reduceAdd, Nat.reduceLeDiff, Nat.reduceMul, k0, k3, hl.len]
    refine brT.intro (fun c1 => ?_) (fun c1 => ?_) <;> simp only [go_sem, ↓reduceIte, Nat.reduceEqDiff, reduceCtorEq, Nat.reduceAdd, Nat.reduceLeDiff, Nat.reduceMul, k0, k3]
    rotate_left
    · have : i = l.length := by have := of_decide_eq_false c1; omega
      subst this
      exact ⟨hH, kok⟩
    have hil : i < l.length := by have := of_decide_eq_true c1; omega
    obtain ⟨id, p, o, ho, hr, hp, hia⟩ := hl.elem (List.getElem?_eq_getElem hil)
    unfold En at hr
    have hat := rowAt_at hil
    have hno : ¬ RowAt l i → ¬ TbOk l := fun h h2 => h (h2.2 i hil)
    have w1 : IntKind.i64.wrap ((i : Int) + 1) = (i : Int) + 1 := wrap64 _ (by omega) (by omega)
    simp only [go_sem, ↓reduceIte, Nat.reduceEqDiff, reduceCtorEq, Nat.reduceAdd, Nat.reduceLeDiff, Nat.reduceMul, k0, k3, hia, hH, ho, hr, hp, eRw]
    refine go_draw ?_
    cases h1 : inB l[i].1 0 99 <;> simp only [go_sem, ↓reduceIte, Nat.reduceEqDiff, reduceCtorEq, Nat.reduceAdd, Nat.reduceLeDiff, Nat.reduceMul, k0, k3, a52, hw, hH, h1]
    · refine ⟨by rfl, ?_⟩
      rw [tbOk_no (hno fun h => by have := (hat.1 h).1; simp [rowOkB, h1] at this)]
    cases h2 : inB l[i].2.1 1 1000 <;> simp only [go_sem, ↓reduceIte, Nat.reduceEqDiff, reduceCtorEq, Nat.reduceAdd, Nat.reduceLeDiff, Nat.reduceMul, k0, k3, a52, hw, hH, h1, h2]
    · refine ⟨by rfl, ?_⟩
      rw [tbOk_no (hno fun h => by have := (hat.1 h).1; simp [rowOkB, h2] at this)]
    cases h3 : inB l[i].2.2 1 1000000 <;> simp only [go_sem, ↓reduceIte, Nat.reduceEqDiff, reduceCtorEq, Nat.reduceAdd, Nat.reduceLeDiff, Nat.reduceMul, k0, k3, a52, hw, hH, h1, h2, h3]
    · refine ⟨by rfl, ?_⟩
      rw [tbOk_no (hno fun h => by have := (hat.1 h).1; simp [rowOkB, h3] at this)]
    have hrow : rowOkB l[i] = true := by simp [rowOkB, h1, h2, h3]
    cases h4 : decide ((i : Int) > 0)
    rotate_left
    have hi0 : 0 < i := by have := of_decide_eq_true h4; omega
    have hil1 : i - 1 < l.length := by omega
    obtain ⟨id', p', o', ho', hr', hp', hia'⟩ := hl.elem (List.getElem?_eq_getElem hil1)
    unfold En at hr'
    have g0 : o'[p']? = some (.int .i64 l[i - 1].1) := by simpa [eRw] using getElem?_of_take hr' (j := 0) (by omega)
    have g1 : o'[p' + 1]? = some (.int .i64 l[i - 1].2.1) := by simpa [eRw] using getElem?_of_take hr' (j := 1) (by omega)
    have w2 : IntKind.i64.wrap ((i : Int) - 1) = ((i - 1 : Nat) : Int) := by rw [wrap64 _ (by omega) (by omega)]; omega
    simp only [go_sem, ↓reduceIte, Nat.reduceEqDiff, reduceCtorEq, Nat.reduceAdd, Nat.reduceLeDiff, Nat.reduceMul, k0, k3, h4, w2, hia', hH, ho', g0, g1]
    cases h5 : decide (l[i - 1].1 > l[i].1)
    rotate_left
    · simp only [go_sem, ↓reduceIte, Nat.reduceEqDiff, reduceCtorEq, Nat.reduceAdd, Nat.reduceLeDiff, Nat.reduceMul, k0, k3, h5]
      refine ⟨by rfl, ?_⟩
      rw [tbOk_no (hno fun h => by
        have := (hat.1 h).2.1 hi0
        have := of_decide_eq_true h5
        unfold ltR at *
        omega)]
    rotate_left
    have h5' := of_decide_eq_false h5
    simp only [go_sem, ↓reduceIte, Nat.reduceEqDiff, reduceCtorEq, Nat.reduceAdd, Nat.reduceLeDiff, Nat.reduceMul, k0, k3, w2, hia', hH, ho', g0, g1, h5]
    cases h6 : decide (l[i - 1].1 = l[i].1)
    have hlt : ∀ h : 0 < i, ltR (l[i - 1]'(by omega)) l[i] := fun _ => .inl (by have := of_decide_eq_false h6; omega)
    simp only [go_sem, ↓reduceIte, Nat.reduceEqDiff, reduceCtorEq, Nat.reduceAdd, Nat.reduceLeDiff, Nat.reduceMul, k0, k3, w2, hia', hH, ho', g0, g1, h6]
    refine ⟨by rfl, ?_⟩
    rotate_left
    simp only [go_sem, ↓reduceIte, Nat.reduceEqDiff, reduceCtorEq, Nat.reduceAdd, Nat.reduceLeDiff, Nat.reduceMul, k0, k3, w2, hia', hH, ho', g0, g1, h6]
    cases h7 : decide (l[i - 1].2.1 ≥ l[i].2.1)
    have hlt : ∀ h : 0 < i, ltR (l[i - 1]'(by omega)) l[i] := fun _ => .inr (by have := of_decide_eq_true h6; have := of_decide_eq_false h7; omega)
    simp only [go_sem, ↓reduceIte, Nat.reduceEqDiff, reduceCtorEq, Nat.reduceAdd, Nat.reduceLeDiff, Nat.reduceMul, k0, k3, h7]
    refine ⟨by rfl, ?_⟩
    rotate_left
    · simp only [go_sem, ↓reduceIte, Nat.reduceEqDiff, reduceCtorEq, Nat.reduceAdd, Nat.reduceLeDiff, Nat.reduceMul, k0, k3, h7]
      refine ⟨by rfl, ?_⟩
      rw [tbOk_no (hno fun h => by
        have := (hat.1 h).2.1 hi0
        have := of_decide_eq_true h6
        have := of_decide_eq_true h7
        unfold ltR at *
        omega)]
    have hlt : ∀ h : 0 < i, ltR (l[i - 1]'(by omega)) l[i] := fun h => by have := of_decide_eq_false h4; omega
    simp only [go_sem, ↓reduceIte, Nat.reduceEqDiff, reduceCtorEq, Nat.reduceAdd, Nat.reduceLeDiff, Nat.reduceMul, k0, k3, h4]
    refine ⟨by rfl, ?_⟩
    all_goals (
      refine go_for i (fun j t => t.H = H ∧ t.ρ 0 = .val v ∧ t.ρ 3 = .val (.int .i64 i) ∧ (∃ g, t.ρ 4 = .bx g (eRw l[i])) ∧ t.ρ 5 = .val (.int .i64 j) ∧ l[i].2.2 ∉ keysR (l.take j)) (fun t => t.H = H ∧ t.ρ 0 = .val v ∧ t.ρ 3 = .val (.int .i64 i) ∧ l[i].2.2 ∉ keysR (l.take i)) ⟨by first | exact hH | rfl, by simp [upd, k0], by simp [upd, k3], ⟨_, by simp [upd, eRw]; rfl⟩, by simp [upd], by simp [keysR]⟩ ?_ ?_
      · rintro j t hj ⟨tH, t0, t3, ⟨g, t4⟩, t5, tn⟩
        unfold eRw at t4
        simp only [go_sem, ↓reduceIte, Nat.reduceEqDiff, reduceCtorEq, Nat.reduceAdd, Nat.reduceLeDiff, Nat.reduceMul, t0, t3, t5]
        refine brT.intro (fun d1 => ?_) (fun d1 => ?_) <;> simp only [go_sem, ↓reduceIte, Nat.reduceEqDiff, reduceCtorEq, Nat.reduceAdd, Nat.reduceLeDiff, Nat.reduceMul, t0, t3, t4, t5]
        · have hji : j < i := by have := of_decide_eq_true d1; omega
          have hjl : j < l.length := by omega
          obtain ⟨jd, jp, jo, jho, jhr, jhp, jia⟩ := hl.elem (List.getElem?_eq_getElem hjl)
          unfold En at jhr
          have jg : jo[jp + 2]? = some (.int .i64 l[j].2.2) := by simpa [eRw] using getElem?_of_take jhr (j := 2) (by omega)
          refine go_draw ?_
          simp only [go_sem, ↓reduceIte, Nat.reduceEqDiff, reduceCtorEq, Nat.reduceAdd, Nat.reduceLeDiff, Nat.reduceMul, t0, t3, t4, t5, jia, tH, jho, jg]
          refine ⟨by rfl, ?_⟩
          refine brT.intro (fun d2 => ?_) (fun d2 => ?_) <;> simp only [go_sem, ↓reduceIte, Nat.reduceEqDiff, reduceCtorEq, Nat.reduceAdd, Nat.reduceLeDiff, Nat.reduceMul, t0, t3, t4, t5, wrap64 ((j : Int) + 1) (by omega) (by omega)]
          · rw [tbOk_no (hno fun h => (hat.1 h).2.2 (by rw [← of_decide_eq_true d2]; exact keys_at hji (by omega)))]
          · refine ⟨hji, ?_, ?_, keys_succ hjl tn (of_decide_eq_false d2)⟩ <;> simp [eRw]
        · have : j = i := by have := of_decide_eq_false d1; omega
          subst this
          exact ⟨tH, tn⟩
      · rintro t ⟨tH, t0, t3, tn⟩
        simp only [go_sem, ↓reduceIte, Nat.reduceEqDiff, reduceCtorEq, Nat.reduceAdd, Nat.reduceLeDiff, Nat.reduceMul, t0, t3, w1]
        refine ⟨hil, tH, by simp, fun j hj => ?_⟩
        by_cases e : j = i
        · subst e
          exact hat.2 ⟨hrow, hlt, tn⟩
        · exact kok j (by omega))
  · rintro s ⟨hH, kok⟩
    simp only [go_sem, ↓reduceIte, Nat.reduceEqDiff, reduceCtorEq, Nat.reduceAdd, Nat.reduceLeDiff, Nat.reduceMul, hH]
    rw [tbOk_yes ⟨by omega, kok⟩]

def cmpR (a b : Rw) : Int := if a.1 = b.1 then IntKind.i64.wrap (a.2.1 - b.2.1) else IntKind.i64.wrap (a.1 - b.1)
theorem f57 {H : Hp} {a b : Rw} : Scal EE 57 [vRw a, vRw b] H (.int .i64 (cmpR a b)) := by
  refine scal_ok rfl rfl k57 (by simp [c57]) rfl fun m hw => ?_
  unfold vRw cmpR
  simp only [go_sem, ↓reduceIte, Nat.reduceEqDiff, reduceCtorEq, Nat.reduceAdd, Nat.reduceLeDiff, Nat.reduceMul, c57]
  refine brT.intro (fun h1 => ?_) (fun h1 => ?_) <;> simp only [go_sem, ↓reduceIte, Nat.reduceEqDiff, reduceCtorEq, Nat.reduceAdd, Nat.reduceLeDiff, Nat.reduceMul]
  · rw [if_pos (of_decide_eq_true h1)]
  · rw [if_neg (of_decide_eq_false h1)]
theorem cmpR_lt {a b : Rw} (ha : rowOkB a = true) (hb : rowOkB b = true) : cmpR a b < 0 ↔ ltR a b := by
  simp only [rowOkB, Bool.and_eq_true, inB_t] at ha hb
  unfold cmpR ltR
  by_cases e : a.1 = b.1
  · rw [if_pos e, wrap64 _ (by omega) (by omega)]
    omega
  · rw [if_neg e, wrap64 _ (by omega) (by omega)]
    omega
theorem f18 {H : Hp} {v : Value} {l : List Rw} (hl : SlRw H v l) : Scal EE 18 [v] H (.bool (tbOk l)) := by
  refine scal_ok rfl rfl k18 (by simp [c18]) rfl fun m hw => ?_
  have hroom := hl.room
  have a54 := fun {a : Int} {m draw t d ts Q} => callT_at (m := m) (draw := draw) (s := t) (d := d) (ts := ts) (Q := Q) (f54i (H := H) (a := a))
  have a55 := fun {a b c : Int} {m draw t d ts Q} => callT_at (m := m) (draw := draw) (s := t) (d := d) (ts := ts) (Q := Q) (f55i (H := H) (a := a) (b := b) (c := c))
  have a56 := fun {a : Int} {m draw t d ts Q} => callT_at (m := m) (draw := draw) (s := t) (d := d) (ts := ts) (Q := Q) (f56i (H := H) (a := a))
  simp only [go_sem, ↓reduceIte, Nat.reduceEqDiff, reduceCtorEq, Nat.reduceAdd, Nat.reduceLeDiff, Nat.reduceMul, c18, hl.len]
  refine go_for l.length (fun i s => s.H = H ∧ s.ρ 0 = .val v ∧ s.ρ 5 = .val v ∧ s.ρ 6 = .val (.int .i64 l.length) ∧ s.ρ 7 = .val (.int .i64 i) ∧ ∀ j, j < i → RowAt l j)
    (fun s => s.H = H ∧ s.ρ 0 = .val v ∧ ∀ j, j < l.length → RowAt l j) ?_ ?_ ?_
  · exact ⟨rfl, by simp [upd, ini], by simp [upd], by simp [upd], by simp [upd], fun j hj => by omega⟩
  · rintro i s hi ⟨hH, k0, k5, k6, k7, kok⟩
    simp only [go_sem, ↓reduceIte, Nat.reduceEqDiff, reduceCtorEq, Nat.reduceAdd, Nat.reduceLeDiff, Nat.reduceMul, k0, k5, k6, k7]
    refine brT.intro (fun c1 => ?_) (fun c1 => ?_) <;> simp only [go_sem, ↓reduceIte, Nat.reduceEqDiff, reduceCtorEq, Nat.reduceAdd, Nat.reduceLeDiff, Nat.reduceMul, k0, k5, k6, k7]
    rotate_left
    · have : i = l.length := by have := of_decide_eq_false c1; omega
      subst this
      exact ⟨hH, kok⟩
    have hil : i < l.length := by have := of_decide_eq_true c1; omega
    obtain ⟨id, p, o, ho, hr, hp, hia⟩ := hl.elem (List.getElem?_eq_getElem hil)
    unfold En at hr
    have hat := rowAt_at hil
    have hno : ¬ RowAt l i → ¬ TbOk l := fun h h2 => h (h2.2 i hil)
    have w1 : IntKind.i64.wrap ((i : Int) + 1) = (i : Int) + 1 := wrap64 _ (by omega) (by omega)
    obtain ⟨v', hv', hsl⟩ := hl.take (i := i) (by omega)
    have a58 := fun {t : Int} {m draw t' d ts Q} => callT_at (m := m) (draw := draw) (s := t') (d := d) (ts := ts) (Q := Q) (f58 (t := t) hv')
    simp only [go_sem, ↓reduceIte, Nat.reduceEqDiff, reduceCtorEq, Nat.reduceAdd, Nat.reduceLeDiff, Nat.reduceMul, k0, k5, k6, k7, hia, hH, ho, hr, hp, eRw]
    refine go_draw ?_
    cases h1 : inB l[i].1 0 99 <;> simp only [go_sem, ↓reduceIte, Nat.reduceEqDiff, reduceCtorEq, Nat.reduceAdd, Nat.reduceLeDiff, Nat.reduceMul, k0, k5, k6, k7, a54, hw, hH, h1]
    · refine ⟨by rfl, ?_⟩
      rw [tbOk_no (hno fun h => by have := (hat.1 h).1; simp [rowOkB, h1] at this)]
    cases h2 : inB l[i].2.1 1 1000 <;> simp only [go_sem, ↓reduceIte, Nat.reduceEqDiff, reduceCtorEq, Nat.reduceAdd, Nat.reduceLeDiff, Nat.reduceMul, k0, k5, k6, k7, a55, hw, hH, h1, h2]
    · refine ⟨by rfl, ?_⟩
      rw [tbOk_no (hno fun h => by have := (hat.1 h).1; simp [rowOkB, h2] at this)]
    cases h3 : inB l[i].2.2 1 1000000 <;> simp only [go_sem, ↓reduceIte, Nat.reduceEqDiff, reduceCtorEq, Nat.reduceAdd, Nat.reduceLeDiff, Nat.reduceMul, k0, k5, k6, k7, a56, hw, hH, h1, h2, h3]
    · refine ⟨by rfl, ?_⟩
      rw [tbOk_no (hno fun h => by have := (hat.1 h).1; simp [rowOkB, h3] at this)]
    have hrow : rowOkB l[i] = true := by simp [rowOkB, h1, h2, h3]
    have next : (∀ h : 0 < i, ltR (l[i - 1]'(by omega)) l[i]) → l[i].2.2 ∉ keysR (l.take i) → ∀ j, j < i + 1 → RowAt l j := fun a b j hj => by
      by_cases e : j = i
      · subst e
        exact hat.2 ⟨hrow, a, b⟩
      · exact kok j (by omega)
    cases h4 : decide ((i : Int) > 0)
    rotate_left
    have hi0 : 0 < i := by have := of_decide_eq_true h4; omega
    have hil1 : i - 1 < l.length := by omega
    have hprev : rowOkB l[i - 1] = true := ((rowAt_at hil1).1 (kok (i - 1) (by omega))).1
    have hcmp := cmpR_lt hprev hrow
    obtain ⟨id', p', o', ho', hr', hp', hia'⟩ := hl.elem (List.getElem?_eq_getElem hil1)
    unfold En at hr'
    have a57 := fun {m draw t d ts Q} => callT_at (m := m) (draw := draw) (s := t) (d := d) (ts := ts) (Q := Q) (f57 (H := H) (a := l[i - 1]) (b := l[i]))
    unfold vRw at a57
    have w2 : IntKind.i64.wrap ((i : Int) - 1) = ((i - 1 : Nat) : Int) := by rw [wrap64 _ (by omega) (by omega)]; omega
    simp only [go_sem, ↓reduceIte, Nat.reduceEqDiff, reduceCtorEq, Nat.reduceAdd, Nat.reduceLeDiff, Nat.reduceMul, k0, k5, k6, k7, h4, w2, hia', hH, ho', hr', hp', eRw, a57, hw]
    cases h5 : decide (cmpR l[i - 1] l[i] ≥ 0)
    rotate_left
    · simp only [go_sem, ↓reduceIte, Nat.reduceEqDiff, reduceCtorEq, Nat.reduceAdd, Nat.reduceLeDiff, Nat.reduceMul, k0, k5, k6, k7, h5]
      refine ⟨by rfl, ?_⟩
      rw [tbOk_no (hno fun h => by
        have := hcmp.2 ((hat.1 h).2.1 hi0)
        have := of_decide_eq_true h5
        omega)]
    rotate_left
    have hlt : ∀ h : 0 < i, ltR (l[i - 1]'(by omega)) l[i] := fun _ => hcmp.1 (by have := of_decide_eq_false h5; omega)
    simp only [go_sem, ↓reduceIte, Nat.reduceEqDiff, reduceCtorEq, Nat.reduceAdd, Nat.reduceLeDiff, Nat.reduceMul, k0, k5, k6, k7, h5, hsl, a58, hw, hH]
    rotate_left
    have hlt : ∀ h : 0 < i, ltR (l[i - 1]'(by omega)) l[i] := fun h => by have := of_decide_eq_false h4; omega
    simp only [go_sem, ↓reduceIte, Nat.reduceEqDiff, reduceCtorEq, Nat.reduceAdd, Nat.reduceLeDiff, Nat.reduceMul, k0, k5, k6, k7, h4, hsl, a58, hw, hH]
    all_goals (
      cases h6 : keyIn (l.take i) l[i].2.2
      · have h6' : l[i].2.2 ∉ keysR (l.take i) := of_decide_eq_false h6
        simp only [go_sem, ↓reduceIte, Nat.reduceEqDiff, reduceCtorEq, Nat.reduceAdd, Nat.reduceLeDiff, Nat.reduceMul, k0, k5, k6, k7, h6]
        refine ⟨by rfl, ?_⟩
        simp only [go_sem, ↓reduceIte, Nat.reduceEqDiff, reduceCtorEq, Nat.reduceAdd, Nat.reduceLeDiff, Nat.reduceMul, k0, k5, k6, k7, h6, w1]
        exact ⟨hil, by simp, next hlt h6'⟩
      · have h6' : l[i].2.2 ∈ keysR (l.take i) := of_decide_eq_true h6
        simp only [go_sem, ↓reduceIte, Nat.reduceEqDiff, reduceCtorEq, Nat.reduceAdd, Nat.reduceLeDiff, Nat.reduceMul, k0, k5, k6, k7, h6]
        refine ⟨by rfl, ?_⟩
        rw [tbOk_no (hno fun h => (hat.1 h).2.2 h6')])
  · rintro s ⟨hH, k0, kok⟩
    simp only [go_sem, ↓reduceIte, Nat.reduceEqDiff, reduceCtorEq, Nat.reduceAdd, Nat.reduceLeDiff, Nat.reduceMul, hH, k0, hl.len]
    cases h : decide ((l.length : Int) ≤ 20) with
    | true => rw [tbOk_yes ⟨by have := of_decide_eq_true h; omega, kok⟩]
    | false => rw [tbOk_no fun h2 => by have := of_decide_eq_false h; have := h2.1; omega]
end Go.Proofs.Ytjepmnmakemfoaa.Ev

/- The text of a table; comparisons. -/
namespace Go.Proofs.Ytjepmnmakemfoaa.Ev
set_option linter.all false
open Go
set_option maxRecDepth 4000

noncomputable def addR (s : ByteArray) (z : Rw) : ByteArray := s ++ varB z.1 ++ varB z.2.1 ++ varB z.2.2
noncomputable def showN (l : List Rw) (i : Nat) : ByteArray := (l.take i).foldl addR (varB l.length)
noncomputable def showB (l : List Rw) : ByteArray := if tbOk l = true then showN l l.length else ⟨#[]⟩
theorem addR_size (s : ByteArray) (z : Rw) : (addR s z).size ≤ s.size + 21 := by
  have h1 := varB_size z.1; have h2 := varB_size z.2.1; have h3 := varB_size z.2.2
  unfold addR
  rw [app_size, app_size, app_size]
  omega
theorem showN_succ {l : List Rw} {i : Nat} (h : i < l.length) : showN l (i + 1) = addR (showN l i) l[i] := by
  unfold showN
  rw [List.take_succ_eq_append_getElem h, List.foldl_append]
  rfl
theorem showN_size {l : List Rw} : ∀ {i : Nat}, i ≤ l.length → (showN l i).size ≤ 7 + 21 * i
  | 0, _ => by
    have h2 := varB_size (l.length : Int)
    unfold showN
    simp only [List.take_zero, List.foldl_nil]
    omega
  | i + 1, h => by
    have := showN_size (l := l) (i := i) (by omega)
    rw [showN_succ (by omega)]
    have := addR_size (showN l i) l[i]
    omega
theorem showB_size (l : List Rw) : (showB l).size ≤ 427 := by
  unfold showB
  split
  · rename_i h
    have h1 := (tbOk_t.1 h).1
    have := showN_size (l := l) (Nat.le_refl _)
    omega
  · decide

theorem f25 {H : Hp} {v : Value} {l : List Rw} (hl : SlRw H v l) : Scal EE 25 [v] H (.string (showB l)) := by
  refine scal_ok rfl rfl k25 (by simp [c25]) rfl fun m hw => ?_
  have a16 := fun {m draw t d ts Q} => callT_at (m := m) (draw := draw) (s := t) (d := d) (ts := ts) (Q := Q) (f16 hl)
  have a59 := fun {n m draw t d ts Q} => callT_at (m := m) (draw := draw) (s := t) (d := d) (ts := ts) (Q := Q) (f59 (H := H) (n := n))
  simp only [go_sem, ↓reduceIte, Nat.reduceEqDiff, reduceCtorEq, Nat.reduceAdd, Nat.reduceLeDiff, Nat.reduceMul, c25, a16, hw]
  unfold showB
  cases hB : tbOk l with
  | false => simp only [go_sem, ↓reduceIte, Nat.reduceEqDiff, reduceCtorEq, Nat.reduceAdd, Nat.reduceLeDiff, Nat.reduceMul, hB]
  | true =>
    have hok := tbOk_t.1 hB
    have h12 := hok.1
    simp only [go_sem, ↓reduceIte, Nat.reduceEqDiff, reduceCtorEq, Nat.reduceAdd, Nat.reduceLeDiff, Nat.reduceMul, hB, hl.len, a59, hw]
    refine go_for l.length (fun i s => s.H = H ∧ s.ρ 0 = .val v ∧ s.ρ 4 = .val (.int .i64 i) ∧ s.ρ 3 = .val (.string (showN l i)))
      (fun s => s.H = H ∧ s.ρ 3 = .val (.string (showN l l.length))) ?_ ?_ ?_
    · exact ⟨rfl, by simp [upd, ini], by simp [upd], by simp [upd, showN]⟩
    · rintro i s hi ⟨hH, k0, k4, k3⟩
      simp only [go_sem, ↓reduceIte, Nat.reduceEqDiff, reduceCtorEq, Nat.reduceAdd, Nat.reduceLeDiff, Nat.reduceMul, k0, k3, k4, hl.len]
      refine brT.intro (fun c1 => ?_) (fun c1 => ?_) <;> simp only [go_sem, ↓reduceIte, Nat.reduceEqDiff, reduceCtorEq, Nat.reduceAdd, Nat.reduceLeDiff, Nat.reduceMul, k0, k3, k4]
      · have hil : i < l.length := by have := of_decide_eq_true c1; omega
        obtain ⟨id, p, o, ho, hr, hp, hia⟩ := hl.elem (List.getElem?_eq_getElem hil)
        unfold En at hr
        have q0 : o[p]? = some (.int .i64 l[i].1) := by simpa [eRw] using getElem?_of_take hr (j := 0) (by omega)
        have q1 : o[p + 1]? = some (.int .i64 l[i].2.1) := by simpa [eRw] using getElem?_of_take hr (j := 1) (by omega)
        have q2 : o[p + 2]? = some (.int .i64 l[i].2.2) := by simpa [eRw] using getElem?_of_take hr (j := 2) (by omega)
        have hsz := showN_size (l := l) (i := i) (by omega)
        have y1 := varB_size l[i].1
        have y2 := varB_size l[i].2.1
        have y3 := varB_size l[i].2.2
        have w1 : IntKind.i64.wrap ((i : Int) + 1) = (i : Int) + 1 := wrap64 _ (by omega) (by omega)
        rw [showN_succ hil]
        unfold addR
        generalize showN l i = S at *
        generalize l[i] = z at *
        obtain ⟨z1', z2', z3'⟩ := z
        simp only at y1 y2 y3 q0 q1 q2 ⊢
        have g1 : S.size + (varB z1').size ≤ 9223372036854775807 := by omega
        have g2 : (S ++ varB z1').size + (varB z2').size ≤ 9223372036854775807 := by rw [app_size]; omega
        have g3 : (S ++ varB z1' ++ varB z2').size + (varB z3').size ≤ 9223372036854775807 := by rw [app_size, app_size]; omega
        have hlt := (List.getElem?_eq_some_iff.1 ho).1
        refine go_draw2 H.length ?_
        simp only [go_sem, ↓reduceIte, Nat.reduceEqDiff, reduceCtorEq, Nat.reduceAdd, Nat.reduceLeDiff, Nat.reduceMul, k0, k3, k4, hia, hH, ho, q0, q1, q2, a59, hw, g1, g2, g3, hlt]
        refine ⟨by rfl, ?_⟩
        simp only [go_sem, ↓reduceIte, Nat.reduceEqDiff, reduceCtorEq, Nat.reduceAdd, Nat.reduceLeDiff, Nat.reduceMul, k0, k3, k4, w1]
        exact ⟨hil, by simp⟩
      · have : i = l.length := by have := of_decide_eq_false c1; omega
        subst this
        exact ⟨hH, rfl⟩
    · rintro s ⟨hH, k3⟩
      simp only [go_sem, ↓reduceIte, Nat.reduceEqDiff, reduceCtorEq, Nat.reduceAdd, Nat.reduceLeDiff, Nat.reduceMul, hH, k3]

theorem f26 {H : Hp} {v : Value} {l : List Rw} (hl : SlRw H v l) : Scal EE 26 [v] H (.string (showB l)) := by
  refine scal_ok rfl rfl k26 (by simp [c26]) rfl fun m hw => ?_
  have a18 := fun {m draw t d ts Q} => callT_at (m := m) (draw := draw) (s := t) (d := d) (ts := ts) (Q := Q) (f18 hl)
  have a60 := fun {n m draw t d ts Q} => callT_at (m := m) (draw := draw) (s := t) (d := d) (ts := ts) (Q := Q) (f60 (H := H) (n := n))
  simp only [go_sem, ↓reduceIte, Nat.reduceEqDiff, reduceCtorEq, Nat.reduceAdd, Nat.reduceLeDiff, Nat.reduceMul, c26, a18, hw]
  unfold showB
  cases hB : tbOk l with
  | false => simp only [go_sem, ↓reduceIte, Nat.reduceEqDiff, reduceCtorEq, Nat.reduceAdd, Nat.reduceLeDiff, Nat.reduceMul, hB]
  | true =>
    have hok := tbOk_t.1 hB
    have h12 := hok.1
    simp only [go_sem, ↓reduceIte, Nat.reduceEqDiff, reduceCtorEq, Nat.reduceAdd, Nat.reduceLeDiff, Nat.reduceMul, hB, hl.len, a60, hw]
    refine go_for l.length (fun i s => s.H = H ∧ s.ρ 12 = .val v ∧ s.ρ 13 = .val (.int .i64 l.length) ∧ s.ρ 14 = .val (.int .i64 i) ∧ s.ρ 3 = .val (.string (showN l i)))
      (fun s => s.H = H ∧ s.ρ 3 = .val (.string (showN l l.length))) ?_ ?_ ?_
    · exact ⟨rfl, by simp [upd, ini], by simp [upd], by simp [upd], by simp [upd, showN]⟩
    · rintro i s hi ⟨hH, k12, k13, k14, k3⟩
      simp only [go_sem, ↓reduceIte, Nat.reduceEqDiff, reduceCtorEq, Nat.reduceAdd, Nat.reduceLeDiff, Nat.reduceMul, k12, k13, k14, k3]
      refine brT.intro (fun c1 => ?_) (fun c1 => ?_) <;> simp only [go_sem, ↓reduceIte, Nat.reduceEqDiff, reduceCtorEq, Nat.reduceAdd, Nat.reduceLeDiff, Nat.reduceMul, k12, k13, k14, k3]
      · have hil : i < l.length := by have := of_decide_eq_true c1; omega
        obtain ⟨id, p, o, ho, hr, hp, hia⟩ := hl.elem (List.getElem?_eq_getElem hil)
        unfold En at hr
        have hsz := showN_size (l := l) (i := i) (by omega)
        have y1 := varB_size l[i].1
        have y2 := varB_size l[i].2.1
        have y3 := varB_size l[i].2.2
        have w1 : IntKind.i64.wrap ((i : Int) + 1) = (i : Int) + 1 := wrap64 _ (by omega) (by omega)
        rw [showN_succ hil]
        unfold addR
        generalize showN l i = S at *
        generalize l[i] = z at *
        obtain ⟨z1', z2', z3'⟩ := z
        simp only at y1 y2 y3 hr ⊢
        have g1 : S.size + (varB z1').size ≤ 9223372036854775807 := by omega
        have g2 : (S ++ varB z1').size + (varB z2').size ≤ 9223372036854775807 := by rw [app_size]; omega
        have g3 : (S ++ varB z1' ++ varB z2').size + (varB z3').size ≤ 9223372036854775807 := by rw [app_size, app_size]; omega
        simp only [go_sem, ↓reduceIte, Nat.reduceEqDiff, reduceCtorEq, Nat.reduceAdd, Nat.reduceLeDiff, Nat.reduceMul, k12, k13, k14, k3, hia, hH, ho, hr, hp, eRw]
        refine go_draw ?_
        simp only [go_sem, ↓reduceIte, Nat.reduceEqDiff, reduceCtorEq, Nat.reduceAdd, Nat.reduceLeDiff, Nat.reduceMul, k12, k13, k14, k3, a60, hw, g1, g2, g3, hH]
        refine ⟨by rfl, ?_⟩
        simp only [go_sem, ↓reduceIte, Nat.reduceEqDiff, reduceCtorEq, Nat.reduceAdd, Nat.reduceLeDiff, Nat.reduceMul, k12, k13, k14, k3, w1]
        exact ⟨hil, by simp⟩
      · have : i = l.length := by have := of_decide_eq_false c1; omega
        subst this
        exact ⟨hH, rfl⟩
    · rintro s ⟨hH, k3⟩
      simp only [go_sem, ↓reduceIte, Nat.reduceEqDiff, reduceCtorEq, Nat.reduceAdd, Nat.reduceLeDiff, Nat.reduceMul, hH, k3]

end Go.Proofs.Ytjepmnmakemfoaa.Ev

/- Numbers read one behind the other: both ways. -/
namespace Go.Proofs.Ytjepmnmakemfoaa.Ev
set_option linter.all false
open Go
set_option maxRecDepth 4000

noncomputable def stepP (s : ByteArray) : Option Nat → Option Nat
  | some a => if (rdV (rest s a)).2 = 0 then none else some (a + (rdV (rest s a)).2)
  | none => none
noncomputable def valP (s : ByteArray) : Option Nat → Int
  | some a => if (rdV (rest s a)).2 = 0 then 0 else ((rdV (rest s a)).1 : Nat)
  | none => 0
noncomputable def posI (s : ByteArray) (o : Option Nat) : Nat → Option Nat
  | 0 => o
  | n + 1 => stepP s (posI s o n)
theorem posI_none (s : ByteArray) : ∀ n, posI s none n = none
  | 0 => rfl
  | n + 1 => by rw [posI, posI_none s n]; rfl
theorem posI_add (s : ByteArray) (o : Option Nat) (k : Nat) : ∀ n, posI s o (k + n) = posI s (posI s o k) n
  | 0 => rfl
  | n + 1 => by rw [Nat.add_succ, posI, posI_add s o k n]; rfl
theorem posI_mono {s : ByteArray} {o : Option Nat} {i n : Nat} (h : i ≤ n) (hn : posI s o i = none) : posI s o n = none := by
  obtain ⟨d, rfl⟩ : ∃ d, n = i + d := ⟨n - i, by omega⟩
  rw [posI_add, hn, posI_none]
theorem stepP_le {s : ByteArray} {a b : Nat} (ha : a ≤ s.size) (h : stepP s (some a) = some b) : a < b ∧ b ≤ s.size := by
  simp only [stepP] at h
  have hr := rdV_le (rest s a)
  rw [rest_size] at hr
  split at h
  · cases h
  · cases h
    omega
theorem posI_le {s : ByteArray} {a : Nat} (ha : a ≤ s.size) : ∀ {n b : Nat}, posI s (some a) n = some b → a ≤ b ∧ b ≤ s.size
  | 0, b, h => by cases h; exact ⟨Nat.le_refl _, ha⟩
  | n + 1, b, h => by
    rw [posI] at h
    cases hp : posI s (some a) n with
    | none => rw [hp] at h; cases h
    | some c =>
      rw [hp] at h
      have h1 := posI_le ha hp
      have h2 := stepP_le h1.2 h
      omega
theorem valP_in (s : ByteArray) (o : Option Nat) : 0 ≤ valP s o ∧ valP s o ≤ 562949953421311 := by
  cases o with
  | none => simp only [valP]; omega
  | some a =>
    simp only [valP]
    have hr := rdV_le (rest s a)
    split <;> omega
noncomputable def valsP (s : ByteArray) (o : Option Nat) (n : Nat) : List Int := (List.range n).map fun j => valP s (posI s o j)
theorem valsP_len (s : ByteArray) (o : Option Nat) (n : Nat) : (valsP s o n).length = n := by simp [valsP]
theorem valsP_succ (s : ByteArray) (o : Option Nat) (n : Nat) : valsP s o (n + 1) = valsP s o n ++ [valP s (posI s o n)] := by simp [valsP, List.range_succ]
theorem valsP_get {s : ByteArray} {o : Option Nat} {n i : Nat} (h : i < n) : (valsP s o n)[i]? = some (valP s (posI s o i)) := by simp [valsP, h]

abbrev SlI (H : Hp) (v : Value) (l : List Int) : Prop := Sl (En eI) 1 H v l
theorem Sl.int {H : Hp} {v : Value} {l : List Int} (h : SlI H v l) {i : Nat} {a : Int} (hi : l[i]? = some a) : ∃ id p o, H[id]? = some o ∧ o[p]? = some (.int .i64 a) ∧
    ∀ (s : St) (x y : X), exv s.ρ x = some v → exv s.ρ y = some (.int .i64 i) → iadrK s 1 x y = some (.val (.pointer (some ⟨id, p, some o.length⟩)), s) := by
  obtain ⟨id, p, o, ho, hr, hp, hia⟩ := h.elem hi
  unfold En at hr
  exact ⟨id, p, o, ho, by simpa [eI] using getElem?_of_take hr (j := 0) (by omega), hia⟩
theorem Sl.intC {H : Hp} {v : Value} {l : List Int} (h : SlI H v l) {i : Nat} {a : Int} (hi : l[i]? = some a) (c : Int) (hc : c = (i : Int)) : ∃ id p o, H[id]? = some o ∧ o[p]? = some (.int .i64 a) ∧
    ∀ (s : St) (x : X), exv s.ρ x = some v → iadrK s 1 x (.c (.int .i64 c)) = some (.val (.pointer (some ⟨id, p, some o.length⟩)), s) := by
  subst hc
  obtain ⟨id, p, o, h1, h2, h3⟩ := h.int hi
  exact ⟨id, p, o, h1, h2, fun s x hx => h3 s x _ hx rfl⟩
theorem Sl.oneI {m : Md} {N : Nat} {H : Hp} {v : Value} {l : List Int} (a : Int) (h : SlI H v l) (ho : OwnS N v) (hN : N ≤ H.length) (hw : ∀ id, N ≤ id → m.wr id = true) (hb : l.length < 1048576) :
    ∃ v' H', (∀ (s : St) (x y : X), s.H = H → exv s.ρ x = some v → ex s.ρ y = .vs 1 [.int .i64 a] → appK m s 1 8 x y = some (.val v', { s with H := H' })) ∧ SlI H' v' (l ++ [a]) ∧ OwnS N v' ∧
      (∀ j, j < H.length → j ∉ idsOf v → H'[j]? = H[j]?) ∧ H.length ≤ H'.length ∧ (∀ j ∈ idsOf v', j ∈ idsOf v ∨ H.length ≤ j) ∧ ∀ H0 : Hp, H0.length ≤ N → H0 <+: H → H0 <+: H' := by
  obtain ⟨v', H', h1, h2⟩ := h.app (m := m) (n := 1) (bytes := 8) (l2 := [a]) (cs := [.int .i64 a]) ho hN hw (fun _ => rfl) (by simp) rfl (fun i b hi => by
    cases i with
    | zero => simp at hi; subst hi; rfl
    | succ i => simp at hi) (by unfold Ev.room; simp; omega) (by unfold Ev.room; simp; omega)
  exact ⟨v', H', fun s x y hH hx hy => h1 s x y hH hx (by rw [hy]; rfl), h2⟩
theorem own_newI {H : Hp} : SlI (H ++ [[]]) (.slice (some ⟨H.length, 0, some 1⟩) 0 (0 * 1)) [] := .inr ⟨H.length, 0, 0, [], rfl, by simp, by simp, by simp, by simp, fun i a hi => by simp at hi⟩

def VsR (H : Hp) (s : ByteArray) (a n : Nat) (r : Value) (H' : Hp) : Prop := ∃ w e, r = .tuple #[w, .int .i64 e] ∧ H <+: H' ∧
  ((posI s (some a) n = none ∧ e = -1) ∨ ∃ b, posI s (some a) n = some b ∧ e = (b : Int) ∧ SlI H' w (valsP s (some a) n) ∧ OwnS H.length w)
theorem f61 {m : Md} {H : Hp} {s : ByteArray} {a n : Nat} {c : Int} (hs : s.size ≤ 4611686018427387904) (ha : a ≤ s.size) (hc : c = (n : Int)) (hn : n ≤ 1000) (hw : Wr m H) : Fun EE m 61 [.string s, .int .i64 a, .int .i64 c] H fun r H' => VsR H s a n r H' := by
  subst hc
  refine fun_f rfl rfl k61 (by simp [c61]) ?_
  have p0 : H <+: H ++ [[]] := List.prefix_append _ _
  have s0 : SlI (H ++ [[]]) (.slice (some ⟨H.length, 0, some 1⟩) 0 (0 * 1)) [] := own_newI
  have o0 : OwnS H.length (.slice (some ⟨H.length, 0, some 1⟩) 0 (0 * 1)) := .inr ⟨_, _, _, _, rfl, Nat.le_refl _⟩
  generalize hwv : Value.slice (some ⟨H.length, 0, some 1⟩) 0 (0 * 1) = wv0 at s0 o0
  simp only [go_sem, ↓reduceIte, Nat.reduceEqDiff, reduceCtorEq, Nat.reduceAdd, Nat.reduceLeDiff, Nat.reduceMul, c61, fillL, hwv]
  refine go_for n (fun i t => H <+: t.H ∧ t.ρ 0 = .val (.string s) ∧ t.ρ 2 = .val (.int .i64 n) ∧ t.ρ 9 = .val (.int .i64 i) ∧ (∃ b, posI s (some a) i = some b ∧ t.ρ 1 = .val (.int .i64 b)) ∧ ∃ wv, t.ρ 8 = .val wv ∧ SlI t.H wv (valsP s (some a) i) ∧ OwnS H.length wv)
    (fun t => H <+: t.H ∧ (∃ b, posI s (some a) n = some b ∧ t.ρ 1 = .val (.int .i64 b)) ∧ ∃ wv, t.ρ 8 = .val wv ∧ SlI t.H wv (valsP s (some a) n) ∧ OwnS H.length wv) ?_ ?_ ?_
  · exact ⟨p0, by simp [upd, ini], by simp [upd, ini], by simp [upd], ⟨a, rfl, by simp [upd, ini]⟩, wv0, by simp [upd], s0, o0⟩
  · rintro i t hi ⟨kH, k0, k2, k9, ⟨b, hb, k1⟩, wv, k8, ks, ko⟩
    simp only [go_sem, ↓reduceIte, Nat.reduceEqDiff, reduceCtorEq, Nat.reduceAdd, Nat.reduceLeDiff, Nat.reduceMul, k0, k2, k9]
    refine brT.intro (fun q => ?_) (fun q => ?_) <;> simp only [go_sem, ↓reduceIte, Nat.reduceEqDiff, reduceCtorEq, Nat.reduceAdd, Nat.reduceLeDiff, Nat.reduceMul, k0, k1, k2, k8, k9]
    · have hin : i < n := by have := of_decide_eq_true q; omega
      have hbs := posI_le ha hb
      have kw := hw.pre kH
      have d1 : decide ((b : Int) < 0) = false := decide_eq_false (by omega)
      have d2 : decide ((b : Int) > (s.size : Int)) = false := decide_eq_false (by omega)
      have hsl := fun {t : St} {x y : X} => slc_rest (s := t) (x := x) (y := y) (b := s) (k := b) hbs.2
      have hrs := rest_size s b
      have hr := rdV_le (rest s b)
      rw [hrs] at hr
      have a87 := fun {m draw t' d ts Q} => callT_at (m := m) (draw := draw) (s := t') (d := d) (ts := ts) (Q := Q) (f87 (H := t.H) (s := rest s b) (by omega))
      simp only [go_sem, ↓reduceIte, Nat.reduceEqDiff, reduceCtorEq, Nat.reduceAdd, Nat.reduceLeDiff, Nat.reduceMul, d1, d2, lenTK, k0, k1, k2, k8, k9, hsl, a87, kw, List.getElem?_toArray]
      refine brT.intro (fun q2 => ?_) (fun q2 => ?_) <;> simp only [go_sem, ↓reduceIte, Nat.reduceEqDiff, reduceCtorEq, Nat.reduceAdd, Nat.reduceLeDiff, Nat.reduceMul, k0, k1, k2, k8, k9]
      · have q2' : (rdV (rest s b)).2 = 0 := by have := of_decide_eq_true q2; omega
        refine ⟨wv, -1, rfl, kH, .inl ⟨posI_mono (i := i + 1) hin ?_, rfl⟩⟩
        rw [posI, hb, stepP, if_pos q2']
      · have q2' : ¬ (rdV (rest s b)).2 = 0 := by have := of_decide_eq_false q2; omega
        obtain ⟨v2, H2, e1, e2, e3, e4, e5, e6, e7⟩ := ks.oneI (m := m) ((rdV (rest s b)).1 : Nat) ko kH.length_le hw (by rw [valsP_len]; omega)
        have hp2 := e7 H (Nat.le_refl _) kH
        rw [e1]
        rotate_left
        · rfl
        · rfl
        · rfl
        have w2 : IntKind.i64.wrap ((b : Int) + ((rdV (rest s b)).2 : Int)) = ((b + (rdV (rest s b)).2 : Nat) : Int) := by rw [wrap64 _ (by omega) (by omega)]; omega
        simp only [go_sem, ↓reduceIte, Nat.reduceEqDiff, reduceCtorEq, Nat.reduceAdd, Nat.reduceLeDiff, Nat.reduceMul, k0, k1, k2, k8, k9, w2, wrap64 ((i : Int) + 1) (by omega) (by omega)]
        refine ⟨hin, hp2, by simp, ⟨_, ?_, rfl⟩, v2, rfl, ?_, e3⟩
        · rw [posI, hb, stepP, if_neg q2']
        · rw [valsP_succ, hb, valP, if_neg q2']
          exact e2
    · have : i = n := by have := of_decide_eq_false q; omega
      subst this
      exact ⟨kH, ⟨b, hb, rfl⟩, wv, rfl, ks, ko⟩
  · rintro t ⟨kH, ⟨b, hb, k1⟩, wv, k8, ks, ko⟩
    simp only [go_sem, ↓reduceIte, Nat.reduceEqDiff, reduceCtorEq, Nat.reduceAdd, Nat.reduceLeDiff, Nat.reduceMul, k1, k8]
    exact ⟨wv, b, rfl, kH, .inr ⟨b, hb, rfl, ks, ko⟩⟩

/-- A reader of numbers: where it stands. -/
def Rd (H : Hp) (c : Value) (id : Nat) (s : ByteArray) (o : Option Nat) : Prop := c = .pointer (some ⟨id, 0, some 3⟩) ∧ ∃ (a : Nat) (bad : Bool), H[id]? = some [.string s, .int .i64 a, .bool bad] ∧ a ≤ s.size ∧ (∀ b, o = some b → a = b ∧ bad = false) ∧ (o = none → bad = true)
def RS (H H' : Hp) (c : Value) (id : Nat) (s : ByteArray) (o : Option Nat) : Prop := Rd H' c id s o ∧ (∀ j, j ≠ id → H'[j]? = H[j]?) ∧ H'.length = H.length
theorem Rd.lt {H : Hp} {c : Value} {id : Nat} {s : ByteArray} {o : Option Nat} (h : Rd H c id s o) : id < H.length := by
  obtain ⟨rfl, a, b, hid, _⟩ := h
  exact (List.getElem?_eq_some_iff.1 hid).1
theorem RS.pre {H H' : Hp} {c : Value} {id : Nat} {s : ByteArray} {o : Option Nat} {H0 : Hp} (h : RS H H' c id s o) (hp : H0 <+: H) (hid : H0.length ≤ id) : H0 <+: H' :=
  pre_keep hp (fun j hj => h.2.1 j (by omega)) (by have := h.2.2; omega)
theorem Sl.rs {α : Type} {R : α → List Value → Prop} {esz : Nat} {H H' : Hp} {v c : Value} {l : List α} {id : Nat} {s : ByteArray} {o : Option Nat} (h : Sl R esz H v l) (hc : RS H H' c id s o) (hid : id ∉ idsOf v) : Sl R esz H' v l :=
  h.frame (fun _ _ _ h => h) fun i off e ln cap hv => hc.2.1 i (fun e2 => hid (by subst hv; subst e2; simp [idsOf]))
theorem Rd.keep {H H' : Hp} {c : Value} {id : Nat} {s : ByteArray} {o : Option Nat} (h : Rd H c id s o) (hk : H'[id]? = H[id]?) : Rd H' c id s o := by
  obtain ⟨rfl, a, b, hid, h2⟩ := h
  exact ⟨rfl, a, b, by rw [hk]; exact hid, h2⟩

theorem f63 {m : Md} {H : Hp} {c : Value} {id : Nat} {s : ByteArray} {o : Option Nat} (hs : s.size ≤ 4611686018427387904) (hc : Rd H c id s o) (hw0 : Wr m H) (hw : m.wr id = true) : Fun EE m 63 [c] H fun r H' => r = .int .i64 (valP s o) ∧ RS H H' c id s (stepP s o) := by
  refine fun_f rfl rfl k63 (by simp [c63]) ?_
  obtain ⟨rfl, a, bad, hid, ha, ho1, ho2⟩ := hc
  have hidl := (List.getElem?_eq_some_iff.1 hid).1
  have hset : ∀ q, (H.set id q)[id]? = some q := fun q => List.getElem?_set_self hidl
  have a88 := fun {m draw t' d ts Q} => callT_at (m := m) (draw := draw) (s := t') (d := d) (ts := ts) (Q := Q) (f88 (H := H) (s := s) (a := a) hs ha)
  have hr := rdV_le (rest s a)
  have hrs := rest_size s a
  rw [hrs] at hr
  have done : ∀ (a' : Nat) (b' : Bool) (o' : Option Nat) (q : List Value), q = [.string s, .int .i64 (a' : Int), .bool b'] → a' ≤ s.size → (∀ b, o' = some b → a' = b ∧ b' = false) → (o' = none → b' = true) → RS H (H.set id q) (.pointer (some ⟨id, 0, some 3⟩)) id s o' := fun a' b' o' q hq h1 h2 h3 => by
    subst hq
    exact ⟨⟨rfl, a', b', hset _, h1, h2, h3⟩, fun j hj => List.getElem?_set_ne (fun e => hj e.symm), by simp⟩
  simp only [go_sem, ↓reduceIte, Nat.reduceEqDiff, reduceCtorEq, Nat.reduceAdd, Nat.reduceLeDiff, Nat.reduceMul, c63]
  refine go_draw ?_
  simp only [go_sem, ↓reduceIte, Nat.reduceEqDiff, reduceCtorEq, Nat.reduceAdd, Nat.reduceLeDiff, Nat.reduceMul, nilcK, hid, a88, hw0, Int.reduceLT, List.getElem?_toArray]
  refine ⟨by rfl, ?_⟩
  cases o with
  | none =>
    have hb := ho2 rfl
    subst hb
    simp only [go_sem, ↓reduceIte, Nat.reduceEqDiff, reduceCtorEq, Nat.reduceAdd, Nat.reduceLeDiff, Nat.reduceMul, nilcK, hid, hw, hset]
    exact ⟨rfl, done a true none _ rfl ha (fun b h => by cases h) (fun _ => rfl)⟩
  | some b =>
    obtain ⟨rfl, hb⟩ := ho1 _ rfl
    subst hb
    simp only [go_sem, ↓reduceIte, Nat.reduceEqDiff, reduceCtorEq, Nat.reduceAdd, Nat.reduceLeDiff, Nat.reduceMul, nilcK, hid]
    unfold vaN
    by_cases hk : (rdV (rest s a)).2 = 0
    · have d1 : decide ((-1 : Int) < 0) = true := rfl
      rw [if_pos hk]
      simp only [go_sem, ↓reduceIte, Nat.reduceEqDiff, reduceCtorEq, Nat.reduceAdd, Nat.reduceLeDiff, Nat.reduceMul, d1, nilcK, hid, hw]
      have e1 : valP s (some a) = 0 := by simp only [valP]; rw [if_pos hk]
      have e2 : stepP s (some a) = none := by simp only [stepP]; rw [if_pos hk]
      rw [e1, e2]
      exact ⟨rfl, done a true none _ rfl ha (fun b h => by cases h) (fun _ => rfl)⟩
    · have d1 : decide ((((rdV (rest s a)).1 : Nat) : Int) < 0) = false := decide_eq_false (by omega)
      rw [if_neg hk]
      simp only [go_sem, ↓reduceIte, Nat.reduceEqDiff, reduceCtorEq, Nat.reduceAdd, Nat.reduceLeDiff, Nat.reduceMul, d1, nilcK, hid, hw]
      have e1 : valP s (some a) = ((rdV (rest s a)).1 : Nat) := by simp only [valP]; rw [if_neg hk]
      have e2 : stepP s (some a) = some (a + (rdV (rest s a)).2) := by simp only [stepP]; rw [if_neg hk]
      rw [e1, e2]
      exact ⟨rfl, done (a + (rdV (rest s a)).2) false _ _ rfl (by omega) (fun b h => by cases h; exact ⟨rfl, rfl⟩) (fun h => by cases h)⟩

/-- How many there are, at most so many. -/
noncomputable def manyP (s : ByteArray) (most : Int) (o : Option Nat) : Option Nat := if valP s o > most then none else stepP s o
theorem f62 {m : Md} {H : Hp} {c : Value} {id : Nat} {s : ByteArray} {o : Option Nat} {most : Int} (hs : s.size ≤ 4611686018427387904) (hc : Rd H c id s o) (h0 : 0 ≤ most) (hw0 : Wr m H) (hw : m.wr id = true) :
    Fun EE m 62 [c, .int .i64 most] H fun r H' => r = .int .i64 (if (manyP s most o).isSome then valP s o else 0) ∧ RS H H' c id s (manyP s most o) := by
  refine fun_f rfl rfl k62 (by simp [c62]) ?_
  simp only [go_sem, ↓reduceIte, Nat.reduceEqDiff, reduceCtorEq, Nat.reduceAdd, Nat.reduceLeDiff, Nat.reduceMul, c62]
  refine callT_now (f63 hs hc hw0 hw) fun r H1 ⟨e, hr, hf, hn⟩ => ?_
  subst e
  obtain ⟨e1, a, bad, hid, ha, ho1, ho2⟩ := hr
  subst e1
  have n1 : H1.length = H.length := hn
  have f1 : ∀ j, j ≠ id → H1[j]? = H[j]? := hf
  have hidl := (List.getElem?_eq_some_iff.1 hid).1
  have hset : ∀ q, (H1.set id q)[id]? = some q := fun q => List.getElem?_set_self hidl
  simp only [go_sem, ↓reduceIte, Nat.reduceEqDiff, reduceCtorEq, Nat.reduceAdd, Nat.reduceLeDiff, Nat.reduceMul]
  refine brT.intro (fun q => ?_) (fun q => ?_) <;> simp only [go_sem, ↓reduceIte, Nat.reduceEqDiff, reduceCtorEq, Nat.reduceAdd, Nat.reduceLeDiff, Nat.reduceMul, nilcK, hid, hw, hset]
  · have q' := of_decide_eq_true q
    have e : manyP s most o = none := by unfold manyP; rw [if_pos q']
    rw [e]
    exact ⟨rfl, ⟨rfl, a, true, hset _, ha, fun b h => (by cases h), fun _ => rfl⟩, fun j hj => by rw [List.getElem?_set_ne (fun e => hj e.symm)]; exact f1 j hj, by simp [n1]⟩
  · have q' := of_decide_eq_false q
    have e : manyP s most o = stepP s o := by unfold manyP; rw [if_neg q']
    rw [e]
    cases hst : stepP s o with
    | none =>
      have hb := ho2 hst
      subst hb
      simp only [go_sem, ↓reduceIte, Nat.reduceEqDiff, reduceCtorEq, Nat.reduceAdd, Nat.reduceLeDiff, Nat.reduceMul]
      exact ⟨rfl, ⟨rfl, a, true, hid, ha, fun b h => (by cases h), fun _ => rfl⟩, f1, n1⟩
    | some b =>
      obtain ⟨rfl, hb⟩ := ho1 _ hst
      subst hb
      simp only [go_sem, ↓reduceIte, Nat.reduceEqDiff, reduceCtorEq, Nat.reduceAdd, Nat.reduceLeDiff, Nat.reduceMul]
      exact ⟨⟨rfl, a, false, hid, ha, fun b h => (by cases h; exact ⟨rfl, rfl⟩), fun h => (by cases h)⟩, f1, n1⟩
end Go.Proofs.Ytjepmnmakemfoaa.Ev

/- A row of numbers as a text, read again: plain. -/
namespace Go.Proofs.Ytjepmnmakemfoaa.Ev
set_option linter.all false
open Go

/-- Numbers, one behind the other. -/
def vsT : List Int → ByteArray
  | [] => ByteArray.empty
  | n :: l => varB n ++ vsT l
theorem cat_nil (a : ByteArray) : a ++ ByteArray.empty = a := by simp
theorem cat_assoc (a b c : ByteArray) : a ++ b ++ c = a ++ (b ++ c) := by rw [ByteArray.append_assoc]
theorem vsT_app : ∀ a b : List Int, vsT (a ++ b) = vsT a ++ vsT b
  | [], b => by simp [vsT]
  | n :: a, b => by rw [List.cons_append, vsT, vsT, vsT_app a b, cat_assoc]
theorem rest_cat (a b : ByteArray) : rest (a ++ b) a.size = b := by
  have := rest_mid (x := a) (t := b) (y := ByteArray.empty) (a := 0) (Nat.zero_le _)
  rw [cat_nil, cat_nil] at this
  rw [Nat.add_zero] at this
  rw [this]
  unfold rest
  exact ByteArray.extract_zero_size
def VIn (n : Int) : Prop := 0 ≤ n ∧ n ≤ 562949953421311
theorem varB_sz {n : Int} (h : VIn n) : (varB n).size = (varL n.toNat).length := by
  unfold varB
  rw [if_pos ⟨h.1, h.2⟩, strOf_size]
theorem rd_vs {a : ByteArray} {n : Int} {l : List Int} (h : VIn n) : rdV (rest (a ++ vsT (n :: l)) a.size) = (n.toNat, (varB n).size) := by
  rw [rest_cat, vsT, varB_sz h]
  have hn : ((n.toNat : Nat) : Int) = n := Int.toNat_of_nonneg h.1
  have := read_var (n := n.toNat) (x := vsT l) (by have := h.2; omega)
  rw [hn] at this
  exact this
theorem varB_pos {n : Int} (h : VIn n) : 0 < (varB n).size := by rw [varB_sz h]; exact varL_pos _
theorem step_vs {a : ByteArray} {n : Int} {l : List Int} (h : VIn n) : stepP (a ++ vsT (n :: l)) (some a.size) = some (a.size + (varB n).size) ∧ valP (a ++ vsT (n :: l)) (some a.size) = n := by
  have hp := varB_pos h
  have hn : ((n.toNat : Nat) : Int) = n := Int.toNat_of_nonneg h.1
  simp only [stepP, valP, rd_vs h]
  rw [if_neg (by omega), if_neg (by omega)]
  exact ⟨rfl, hn⟩
theorem pos_vs {l : List Int} (h : ∀ n ∈ l, VIn n) : ∀ {i : Nat}, i ≤ l.length → posI (vsT l) (some 0) i = some (vsT (l.take i)).size
  | 0, _ => rfl
  | i + 1, hi => by
    have e : l = l.take i ++ (l[i] :: l.drop (i + 1)) := by rw [List.getElem_cons_drop, List.take_append_drop]
    rw [posI, pos_vs h (by omega)]
    have e2 : vsT l = vsT (l.take i) ++ vsT (l[i] :: l.drop (i + 1)) := by rw [← vsT_app, ← e]
    rw [e2, (step_vs (h _ (List.getElem_mem _))).1, List.take_succ_eq_append_getElem (by omega), vsT_app, ByteArray.size_append, vsT, vsT, cat_nil]
theorem val_vs {l : List Int} (h : ∀ n ∈ l, VIn n) {i : Nat} (hi : i < l.length) : valP (vsT l) (posI (vsT l) (some 0) i) = l[i] := by
  rw [pos_vs h (by omega)]
  have e : l = l.take i ++ (l[i] :: l.drop (i + 1)) := by rw [List.getElem_cons_drop, List.take_append_drop]
  have e2 : vsT l = vsT (l.take i) ++ vsT (l[i] :: l.drop (i + 1)) := by rw [← vsT_app, ← e]
  rw [e2]
  exact (step_vs (h _ (List.getElem_mem _))).2
end Go.Proofs.Ytjepmnmakemfoaa.Ev

/- A table read from its text: both ways. -/
namespace Go.Proofs.Ytjepmnmakemfoaa.Ev
set_option linter.all false
open Go
set_option maxRecDepth 4000

noncomputable def hdP (s : ByteArray) : Option Nat := manyP s 20 (some 0)
noncomputable def nP (s : ByteArray) : Nat := (valP s (some 0)).toNat
noncomputable def rowP (s : ByteArray) (o : Option Nat) : Rw := (valP s o, valP s (posI s o 1), valP s (posI s o 2))
noncomputable def rowsP (s : ByteArray) (o : Option Nat) (n : Nat) : List Rw := (List.range n).map fun j => rowP s (posI s o (3 * j))
theorem rowsP_len (s : ByteArray) (o : Option Nat) (n : Nat) : (rowsP s o n).length = n := by simp [rowsP]
theorem rowsP_succ (s : ByteArray) (o : Option Nat) (n : Nat) : rowsP s o (n + 1) = rowsP s o n ++ [rowP s (posI s o (3 * n))] := by simp [rowsP, List.range_succ]
def GB (s : ByteArray) : Prop := (∃ a b, hdP s = some a ∧ posI s (some a) (3 * nP s) = some b) ∧ showB (rowsP s (hdP s) (nP s)) = s
def RB (s : ByteArray) (l : List Rw) (ok : Bool) : Prop := (GB s ∧ ok = true ∧ l = rowsP s (hdP s) (nP s)) ∨ (¬ GB s ∧ ok = false ∧ l = [])
theorem RB.unique {s : ByteArray} {l l' : List Rw} {ok ok' : Bool} (h : RB s l ok) (h' : RB s l' ok') : l = l' ∧ ok = ok' := by
  rcases h with ⟨a, rfl, rfl⟩ | ⟨a, rfl, rfl⟩ <;> rcases h' with ⟨b, rfl, rfl⟩ | ⟨b, rfl, rfl⟩
  · exact ⟨rfl, rfl⟩
  · exact absurd a b
  · exact absurd b a
  · exact ⟨rfl, rfl⟩
def BsR (H : Hp) (s : ByteArray) (r : Value) (H' : Hp) : Prop := ∃ w l ok, r = .tuple #[w, .bool ok] ∧ FreshS eRw 3 H w H' l ∧ RB s l ok
theorem own_newR {H : Hp} : SlRw (H ++ [[]]) (.slice (some ⟨H.length, 0, some 3⟩) 0 (0 * 3)) [] := .inr ⟨H.length, 0, 0, [], rfl, by simp, by simp, by simp, by simp, fun i a hi => by simp at hi⟩
theorem BsR.no {H H' : Hp} {s : ByteArray} {w : Value} (h : ¬ GB s) (hf : FreshS eRw 3 H w H' []) : BsR H s (.tuple #[w, .bool false]) H' := ⟨w, [], false, rfl, hf, .inr ⟨h, rfl, rfl⟩⟩
theorem FreshS.new {H H' : Hp} (hp : H <+: H') : FreshS eRw 3 H (.slice (some ⟨H'.length, 0, some 3⟩) 0 (0 * 3)) (H' ++ [[]]) [] := ⟨hp.trans (List.prefix_append _ _), own_newR, .inr ⟨_, _, _, _, rfl, hp.length_le⟩⟩
theorem FreshS.nil {H H' : Hp} (hp : H <+: H') : FreshS eRw 3 H (.slice none 0 0) H' [] := ⟨hp, .inl ⟨rfl, rfl⟩, .inl rfl⟩
theorem nP_le {s : ByteArray} {a : Nat} (h : hdP s = some a) : nP s ≤ 20 ∧ stepP s (some 0) = some a ∧ valP s (some 0) = (nP s : Int) := by
  unfold hdP manyP at h
  have hv := valP_in s (some 0)
  unfold nP
  split at h
  · cases h
  · refine ⟨by omega, h, by omega⟩

theorem Sl.oneRw {m : Md} {N : Nat} {H : Hp} {v : Value} {l : List Rw} (z : Rw) (h : SlRw H v l) (ho : OwnS N v) (hN : N ≤ H.length) (hw : ∀ id, N ≤ id → m.wr id = true) (hb : l.length < 1048576) :
    ∃ v' H', (∀ (s : St) (x y : X), s.H = H → exv s.ρ x = some v → ex s.ρ y = .vs 1 (eRw z) → appK m s 3 24 x y = some (.val v', { s with H := H' })) ∧ SlRw H' v' (l ++ [z]) ∧ OwnS N v' ∧
      (∀ j, j < H.length → j ∉ idsOf v → H'[j]? = H[j]?) ∧ H.length ≤ H'.length ∧ (∀ j ∈ idsOf v', j ∈ idsOf v ∨ H.length ≤ j) ∧ ∀ H0 : Hp, H0.length ≤ N → H0 <+: H → H0 <+: H' := by
  obtain ⟨v', H', h1, h2⟩ := h.app (m := m) (n := 1) (bytes := 24) (l2 := [z]) (cs := eRw z) ho hN hw (fun _ => rfl) (by simp) rfl (fun i b hi => by
    cases i with
    | zero => simp at hi; subst hi; rfl
    | succ i => simp at hi) (by unfold Ev.room; simp; omega) (by unfold Ev.room; simp; omega)
  exact ⟨v', H', fun s x y hH hx hy => h1 s x y hH hx (by rw [hy]; rfl), h2⟩

theorem OwnS.mono {N N' : Nat} {v : Value} (h : OwnS N v) (hn : N' ≤ N) : OwnS N' v := by
  rcases h with h | ⟨id, e, ln, cap, h, hid⟩
  · exact .inl h
  · exact .inr ⟨id, e, ln, cap, h, by omega⟩
theorem f31 {m : Md} {H : Hp} {s : ByteArray} (hs : s.size ≤ 4611686018427387904) (hw : Wr m H) : Fun EE m 31 [.string s] H fun r H' => BsR H s r H' := by
  refine fun_f rfl rfl k31 (by simp [c31]) ?_
  have p0 : H <+: H ++ [[]] := List.prefix_append _ _
  have s0 : SlRw (H ++ [[]]) (.slice (some ⟨H.length, 0, some 3⟩) 0 (0 * 3)) [] := own_newR
  have o0 : OwnS H.length (.slice (some ⟨H.length, 0, some 3⟩) 0 (0 * 3)) := .inr ⟨_, _, _, _, rfl, Nat.le_refl _⟩
  generalize hwv : Value.slice (some ⟨H.length, 0, some 3⟩) 0 (0 * 3) = wv0 at s0 o0
  simp only [go_sem, ↓reduceIte, Nat.reduceEqDiff, reduceCtorEq, Nat.reduceAdd, Nat.reduceLeDiff, Nat.reduceMul, c31, fillL, hwv]
  refine callT_to (fun m' h => f61 (a := 0) (n := 1) hs (Nat.zero_le _) rfl (by omega) h) rfl (hw.pre p0) fun r1 H1 ⟨w, e, e1, p1, e2⟩ => ?_
  subst e1
  have p01 := p0.trans p1
  have w1 := hw.pre p01
  have s1 := s0.pre p1
  simp only [go_sem, ↓reduceIte, Nat.reduceEqDiff, reduceCtorEq, Nat.reduceAdd, Nat.reduceLeDiff, Nat.reduceMul, List.getElem?_toArray]
  rcases e2 with ⟨hn, rfl⟩ | ⟨b, hb, rfl, hsw, how⟩
  · have d1 : decide ((-1 : Int) < 0) = true := rfl
    simp only [go_sem, ↓reduceIte, Nat.reduceEqDiff, reduceCtorEq, Nat.reduceAdd, Nat.reduceLeDiff, Nat.reduceMul, d1]
    refine BsR.no (fun h => ?_) ⟨p01, s1, o0⟩
    obtain ⟨a, _, h1, _⟩ := h.1
    have := (nP_le h1).2.1
    have hn : stepP s (some 0) = none := hn
    rw [hn] at this
    cases this
  have hb : stepP s (some 0) = some b := hb
  have d1 : decide ((b : Int) < 0) = false := decide_eq_false (by omega)
  obtain ⟨id0, q0, o0', g0, g0', j0⟩ := hsw.intC (i := 0) (valsP_get (by omega)) 0 rfl
  have e0 : valP s (posI s (some 0) 0) = valP s (some 0) := rfl
  rw [e0] at g0'
  have hv := valP_in s (some 0)
  simp only [go_sem, ↓reduceIte, Nat.reduceEqDiff, reduceCtorEq, Nat.reduceAdd, Nat.reduceLeDiff, Nat.reduceMul, d1, j0, g0, g0']
  refine brT.intro (fun q => ?_) (fun q => ?_) <;> simp only [go_sem, ↓reduceIte, Nat.reduceEqDiff, reduceCtorEq, Nat.reduceAdd, Nat.reduceLeDiff, Nat.reduceMul, j0, g0, g0']
  · have q' := of_decide_eq_true q
    refine BsR.no (fun h => ?_) ⟨p01, s1, o0⟩
    obtain ⟨a, _, h1, _⟩ := h.1
    have := nP_le h1
    omega
  have q' := of_decide_eq_false q
  have hhd : hdP s = some b := by unfold hdP manyP; rw [if_neg q', hb]
  obtain ⟨hn12, _, hval⟩ := nP_le hhd
  have hbs : b ≤ s.size := by
    have : posI s (some 0) 1 = some b := hb
    exact (posI_le (Nat.zero_le _) this).2
  rw [hval] at g0'
  have hdw : ∀ j ∈ idsOf w, j ∉ idsOf wv0 := fun j hj h => by
    have h1 : j < (H ++ [[]]).length := s0.ids j h
    have h2 : (H ++ [[]]).length ≤ j := own_ge how j hj
    exact absurd h1 (Nat.not_lt.2 h2)
  refine go_for (nP s) (fun i t => H <+: t.H ∧ t.ρ 0 = .val (.string s) ∧ t.ρ 5 = .val w ∧ SlI t.H w (valsP s (some 0) 1) ∧ t.ρ 7 = .val (.int .i64 i) ∧ (∃ c, posI s (some b) (3 * i) = some c ∧ t.ρ 6 = .val (.int .i64 c)) ∧ ∃ wv, t.ρ 4 = .val wv ∧ SlRw t.H wv (rowsP s (some b) i) ∧ OwnS H.length wv ∧ ∀ j ∈ idsOf w, j ∉ idsOf wv)
    (fun t => H <+: t.H ∧ t.ρ 0 = .val (.string s) ∧ (∃ c, posI s (some b) (3 * nP s) = some c) ∧ ∃ wv, t.ρ 4 = .val wv ∧ SlRw t.H wv (rowsP s (some b) (nP s)) ∧ OwnS H.length wv) ?_ ?_ ?_
  · exact ⟨p01, by simp [upd, ini], by simp [upd], hsw, by simp [upd], ⟨b, rfl, by simp [upd]⟩, wv0, by simp [upd], s1, o0, hdw⟩
  · rintro i t hi ⟨kH, k0, k5, hsw, k7, ⟨c, hc, k6⟩, wv, k4, ks, ko, kd⟩
    obtain ⟨id1, q1, o1, g1, g1', j1⟩ := hsw.intC (i := 0) (valsP_get (by omega)) 0 rfl
    rw [show valP s (posI s (some 0) 0) = valP s (some 0) from rfl, hval] at g1'
    simp only [go_sem, ↓reduceIte, Nat.reduceEqDiff, reduceCtorEq, Nat.reduceAdd, Nat.reduceLeDiff, Nat.reduceMul, k0, k4, k5, k6, k7, j1, g1, g1']
    refine brT.intro (fun q2 => ?_) (fun q2 => ?_) <;> simp only [go_sem, ↓reduceIte, Nat.reduceEqDiff, reduceCtorEq, Nat.reduceAdd, Nat.reduceLeDiff, Nat.reduceMul, k0, k4, k5, k6, k7]
    · have hin : i < nP s := by have := of_decide_eq_true q2; omega
      have kw := hw.pre kH
      have hcs := (posI_le hbs hc).2
      refine callT_to (fun m' h => f61 (a := c) (n := 3) hs hcs rfl (by omega) h) rfl kw fun r2 H2 ⟨w2, e, e1, p2, e2⟩ => ?_
      subst e1
      have p02 := kH.trans p2
      simp only [go_sem, ↓reduceIte, Nat.reduceEqDiff, reduceCtorEq, Nat.reduceAdd, Nat.reduceLeDiff, Nat.reduceMul, List.getElem?_toArray, k0, k4, k5, k6, k7]
      have hadd : posI s (some b) (3 * (i + 1)) = posI s (some c) 3 := by rw [show 3 * (i + 1) = 3 * i + 3 by omega, posI_add, hc]
      rcases e2 with ⟨hn, rfl⟩ | ⟨c2, hc2, rfl, hsw2, _⟩
      · have d2 : decide ((-1 : Int) < 0) = true := rfl
        simp only [go_sem, ↓reduceIte, Nat.reduceEqDiff, reduceCtorEq, Nat.reduceAdd, Nat.reduceLeDiff, Nat.reduceMul, d2, fillL]
        refine BsR.no (fun h => ?_) (FreshS.new p02)
        obtain ⟨a, b', h1, h2⟩ := h.1
        rw [hhd] at h1
        cases h1
        have := posI_mono (i := 3 * (i + 1)) (n := 3 * nP s) (by omega) (hadd.trans hn)
        rw [this] at h2
        cases h2
      have d2 : decide ((c2 : Int) < 0) = false := decide_eq_false (by omega)
      have ks2 := ks.pre p2
      have hsw' := hsw.pre p2
      obtain ⟨ia, qa, oa, ga, ga', ja⟩ := hsw2.intC (i := 0) (valsP_get (by omega)) 0 rfl
      obtain ⟨ib, qb, ob, gb, gb', jb⟩ := hsw2.intC (i := 1) (valsP_get (by omega)) 1 rfl
      obtain ⟨ic, qc, oc, gc, gc', jc⟩ := hsw2.intC (i := 2) (valsP_get (by omega)) 2 rfl
      have hrow : rowP s (posI s (some b) (3 * i)) = (valP s (posI s (some c) 0), valP s (posI s (some c) 1), valP s (posI s (some c) 2)) := by rw [hc]; rfl
      obtain ⟨v2, H3, d3, d4, d5, d6, d7, d8, d9⟩ := ks2.oneRw (m := m) (valP s (posI s (some c) 0), valP s (posI s (some c) 1), valP s (posI s (some c) 2)) ko p02.length_le hw (by rw [rowsP_len]; omega)
      have hp3 := d9 H (Nat.le_refl _) p02
      have hsw3 : SlI H3 w (valsP s (some 0) 1) := hsw'.frame (fun _ _ _ h => h) (fun id off e len cap hv => by
        have hm : id ∈ idsOf w := by subst hv; simp [idsOf]
        exact d6 id (hsw'.ids id hm) (kd id hm))
      have kd3 : ∀ j ∈ idsOf w, j ∉ idsOf v2 := fun j hj h => by
        rcases d8 j h with h2 | h2
        · exact kd j hj h2
        · have := hsw'.ids j hj
          omega
      unfold eRw at d3
      simp only [go_sem, ↓reduceIte, Nat.reduceEqDiff, reduceCtorEq, Nat.reduceAdd, Nat.reduceLeDiff, Nat.reduceMul, d2, k0, k4, k5, k6, k7]
      refine go_draw ?_
      simp only [go_sem, ↓reduceIte, Nat.reduceEqDiff, reduceCtorEq, Nat.reduceAdd, Nat.reduceLeDiff, Nat.reduceMul, k0, k4, k5, k6, k7, ja, ga, ga', jb, gb, gb', jc, gc, gc']
      rw [d3]
      rotate_left
      · rfl
      · rfl
      · rfl
      simp only [go_sem, ↓reduceIte, Nat.reduceEqDiff, reduceCtorEq, Nat.reduceAdd, Nat.reduceLeDiff, Nat.reduceMul, k0, k4, k5, k6, k7]
      refine ⟨by rfl, ?_⟩
      simp only [go_sem, ↓reduceIte, Nat.reduceEqDiff, reduceCtorEq, Nat.reduceAdd, Nat.reduceLeDiff, Nat.reduceMul, k0, k4, k5, k6, k7, wrap64 ((i : Int) + 1) (by omega) (by omega)]
      exact ⟨hin, hp3, hsw3, by simp, ⟨c2, hadd.trans hc2, rfl⟩, v2, rfl, by rw [rowsP_succ, hrow]; exact d4, d5, kd3⟩
    · have : i = nP s := by have := of_decide_eq_false q2; omega
      subst this
      exact ⟨kH, ⟨c, hc⟩, wv, rfl, ks, ko⟩
  · rintro t ⟨kH, k0, ⟨c, hc⟩, wv, k4, ks, ko⟩
    have b25 := f25 ks
    have a25 := fun {m draw t' d ts R} => callT_at (m := m) (draw := draw) (s := t') (d := d) (ts := ts) (Q := R) b25
    simp only [go_sem, ↓reduceIte, Nat.reduceEqDiff, reduceCtorEq, Nat.reduceAdd, Nat.reduceLeDiff, Nat.reduceMul, k0, k4, a25, hw.pre kH]
    have hGB : GB s ↔ showB (rowsP s (some b) (nP s)) = s := by
      unfold GB
      rw [hhd]
      exact ⟨fun h => h.2, fun h => ⟨⟨b, c, rfl, hc⟩, h⟩⟩
    refine brT.intro (fun q2 => ?_) (fun q2 => ?_) <;> simp only [go_sem, ↓reduceIte, Nat.reduceEqDiff, reduceCtorEq, Nat.reduceAdd, Nat.reduceLeDiff, Nat.reduceMul, k0, k4, fillL]
    · have q2' : showB (rowsP s (some b) (nP s)) = s := of_decide_eq_true q2
      exact ⟨_, _, _, rfl, ⟨kH, ks, ko⟩, .inl ⟨hGB.2 q2', rfl, by rw [hhd]⟩⟩
    · have q2' : ¬ showB (rowsP s (some b) (nP s)) = s := of_decide_eq_false q2
      exact BsR.no (fun h => q2' (hGB.1 h)) (FreshS.new kH)
end Go.Proofs.Ytjepmnmakemfoaa.Ev

/- A table read from its text: the program's way; the law ReadTab. -/
namespace Go.Proofs.Ytjepmnmakemfoaa.Ev
set_option linter.all false
open Go
set_option maxRecDepth 4000

theorem f32 {m : Md} {H : Hp} {s : ByteArray} (hs : s.size ≤ 4611686018427387904) (hw : Wr m H) : Fun EE m 32 [.string s] H fun r H' => BsR H s r H' := by
  refine fun_f rfl rfl k32 (by simp [c32]) ?_
  have hwid : m.wr H.length = true := hw _ (Nat.le_refl _)
  have r0 : Rd (H ++ [[Value.string s, .int .i64 0, .bool false]] ++ [[]]) (.pointer (some ⟨H.length, 0, some 3⟩)) H.length s (some 0) := ⟨rfl, 0, false, by simp, Nat.zero_le _, fun b h => by cases h; exact ⟨rfl, rfl⟩, fun h => by cases h⟩
  have p0 : H <+: H ++ [[Value.string s, .int .i64 0, .bool false]] ++ [[]] := by rw [List.append_assoc]; exact List.prefix_append _ _
  have s0 : SlRw (H ++ [[Value.string s, .int .i64 0, .bool false]] ++ [[]]) (.slice (some ⟨(H ++ [[Value.string s, .int .i64 0, .bool false]]).length, 0, some 3⟩) 0 (0 * 3)) [] := own_newR
  have l00 : (H ++ [[Value.string s, .int .i64 0, .bool false]]).length = H.length + 1 := by simp
  have o0 : OwnS (H.length + 1) (.slice (some ⟨(H ++ [[Value.string s, .int .i64 0, .bool false]]).length, 0, some 3⟩) 0 (0 * 3)) := .inr ⟨_, _, _, _, rfl, by omega⟩
  have l0 : (H ++ [[Value.string s, .int .i64 0, .bool false]] ++ [[]]).length = H.length + 2 := by simp
  simp only [go_sem, ↓reduceIte, Nat.reduceEqDiff, reduceCtorEq, Nat.reduceAdd, Nat.reduceLeDiff, Nat.reduceMul, c32, buildK, fillL, exps]
  generalize (Value.slice (some ⟨(H ++ [[Value.string s, .int .i64 0, .bool false]]).length, 0, some 3⟩) 0 (0 * 3)) = wv0 at *
  generalize H ++ [[Value.string s, .int .i64 0, .bool false]] ++ [[]] = Ha at *
  have wa := hw.pre p0
  refine callT_now (f62 (most := 20) hs r0 (by omega) wa hwid) fun r H2 ⟨e, h2⟩ => ?_
  subst e
  have h2 : RS Ha H2 (.pointer (some ⟨H.length, 0, some 3⟩)) H.length s (hdP s) := h2
  have eH : manyP s 20 (some 0) = hdP s := rfl
  rw [eH]
  have q2 := h2.pre p0 (Nat.le_refl _)
  have n2 := h2.2.2
  have s2 := s0.rs h2 (own_notin o0 (by omega))
  obtain ⟨N, hN, hN12, hNs⟩ : ∃ N : Nat, (if (hdP s).isSome = true then valP s (some 0) else 0) = (N : Int) ∧ N ≤ 20 ∧ ∀ a, hdP s = some a → N = nP s := by
    cases hh : hdP s with
    | none => exact ⟨0, by simp, by omega, fun a h => by cases h⟩
    | some a => exact ⟨nP s, by simpa using (nP_le hh).2.2, (nP_le hh).1, fun _ _ => rfl⟩
  rw [hN]
  simp only [go_sem, ↓reduceIte, Nat.reduceEqDiff, reduceCtorEq, Nat.reduceAdd, Nat.reduceLeDiff, Nat.reduceMul]
  refine go_for N (fun i t => H <+: t.H ∧ H.length + 1 ≤ t.H.length ∧ t.ρ 0 = .val (.string s) ∧ t.ρ 4 = .val (.pointer (some ⟨H.length, 0, some 3⟩)) ∧ t.ρ 14 = .val (.int .i64 N) ∧ t.ρ 15 = .val (.int .i64 i) ∧ Rd t.H (.pointer (some ⟨H.length, 0, some 3⟩)) H.length s (posI s (hdP s) (3 * i)) ∧ ∃ wv, t.ρ 5 = .val wv ∧ SlRw t.H wv (rowsP s (hdP s) i) ∧ OwnS (H.length + 1) wv)
    (fun t => H <+: t.H ∧ t.ρ 0 = .val (.string s) ∧ t.ρ 4 = .val (.pointer (some ⟨H.length, 0, some 3⟩)) ∧ Rd t.H (.pointer (some ⟨H.length, 0, some 3⟩)) H.length s (posI s (hdP s) (3 * N)) ∧ ∃ wv, t.ρ 5 = .val wv ∧ SlRw t.H wv (rowsP s (hdP s) N) ∧ OwnS (H.length + 1) wv) ?_ ?_ ?_
  · exact ⟨q2, by show H.length + 1 ≤ H2.length; omega, by simp [upd, ini], by simp [upd], by simp [upd], by simp [upd], h2.1, wv0, by simp [upd], s2, o0⟩
  · rintro i t hi ⟨kH, kl, k0, k4, k14, k15, kr, wv, k5, ks, ko⟩
    simp only [go_sem, ↓reduceIte, Nat.reduceEqDiff, reduceCtorEq, Nat.reduceAdd, Nat.reduceLeDiff, Nat.reduceMul, k0, k4, k5, k14, k15]
    refine brT.intro (fun q => ?_) (fun q => ?_) <;> simp only [go_sem, ↓reduceIte, Nat.reduceEqDiff, reduceCtorEq, Nat.reduceAdd, Nat.reduceLeDiff, Nat.reduceMul, k0, k4, k5, k14, k15]
    · have hin : i < N := by have := of_decide_eq_true q; omega
      have hni : H.length ∉ idsOf wv := own_notin ko (by omega)
      refine callT_now (f63 hs kr (hw.pre kH) hwid) fun r G1 ⟨e, g1⟩ => ?_
      subst e
      have g1 : RS t.H G1 (.pointer (some ⟨H.length, 0, some 3⟩)) H.length s (stepP s (posI s (hdP s) (3 * i))) := g1
      have y1 := g1.pre kH (Nat.le_refl _)
      have s1 := ks.rs g1 hni
      simp only [go_sem, ↓reduceIte, Nat.reduceEqDiff, reduceCtorEq, Nat.reduceAdd, Nat.reduceLeDiff, Nat.reduceMul, k0, k4, k5, k14, k15, buildK, fillL, exps]
      refine callT_now (f63 hs g1.1 (hw.pre y1) hwid) fun r G2 ⟨e, g2⟩ => ?_
      subst e
      have g2 : RS G1 G2 (.pointer (some ⟨H.length, 0, some 3⟩)) H.length s (stepP s (stepP s (posI s (hdP s) (3 * i)))) := g2
      have y2 := g2.pre y1 (Nat.le_refl _)
      have s2 := s1.rs g2 hni
      simp only [go_sem, ↓reduceIte, Nat.reduceEqDiff, reduceCtorEq, Nat.reduceAdd, Nat.reduceLeDiff, Nat.reduceMul, k0, k4, k5, k14, k15, buildK, fillL, exps]
      refine callT_now (f63 hs g2.1 (hw.pre y2) hwid) fun r G4 ⟨e, g4⟩ => ?_
      subst e
      have g4 : RS G2 G4 (.pointer (some ⟨H.length, 0, some 3⟩)) H.length s (stepP s (stepP s (stepP s (posI s (hdP s) (3 * i))))) := g4
      have y4 := g4.pre y2 (Nat.le_refl _)
      have s4 := s2.rs g4 hni
      have m1 := g1.2.2; have m2 := g2.2.2; have m4 := g4.2.2
      have hrow : rowP s (posI s (hdP s) (3 * i)) = (valP s (posI s (hdP s) (3 * i)), valP s (stepP s (posI s (hdP s) (3 * i))), valP s (stepP s (stepP s (posI s (hdP s) (3 * i))))) := rfl
      have hpos : posI s (hdP s) (3 * (i + 1)) = stepP s (stepP s (stepP s (posI s (hdP s) (3 * i)))) := rfl
      obtain ⟨v2, H3, d3, d4, d5, d6, d7, d8, d9⟩ := s4.oneRw (m := m) (rowP s (posI s (hdP s) (3 * i))) ko (by omega) (fun id hid => hw id (by omega)) (by rw [rowsP_len]; omega)
      have hp3 := d9 H (by omega) y4
      rw [hrow] at d3
      unfold eRw at d3
      simp only [go_sem, ↓reduceIte, Nat.reduceEqDiff, reduceCtorEq, Nat.reduceAdd, Nat.reduceLeDiff, Nat.reduceMul, k0, k4, k5, k14, k15, buildK, fillL, exps]
      rw [d3]
      rotate_left
      · rfl
      · rfl
      · rfl
      simp only [go_sem, ↓reduceIte, Nat.reduceEqDiff, reduceCtorEq, Nat.reduceAdd, Nat.reduceLeDiff, Nat.reduceMul, k0, k4, k5, k14, k15, wrap64 ((i : Int) + 1) (by omega) (by omega)]
      refine ⟨hin, hp3, by omega, by simp, ?_, v2, rfl, by rw [rowsP_succ]; exact d4, d5⟩
      rw [hpos]
      exact g4.1.keep (d6 _ (by omega) hni)
    · have : i = N := by have := of_decide_eq_false q; omega
      subst this
      exact ⟨kH, kr, wv, rfl, ks, ko⟩
  · rintro t ⟨kH, k0, k4, ⟨_, a, bad, hid, ha, ho1, ho2⟩, wv, k5, ks, ko⟩
    have b26 := f26 ks
    have a26 := fun {m draw t' d ts R} => callT_at (m := m) (draw := draw) (s := t') (d := d) (ts := ts) (Q := R) b26
    simp only [go_sem, ↓reduceIte, Nat.reduceEqDiff, reduceCtorEq, Nat.reduceAdd, Nat.reduceLeDiff, Nat.reduceMul, k0, k4, k5, nilcK, hid]
    have no : ¬ (∃ a b, hdP s = some a ∧ posI s (some a) (3 * nP s) = some b) → ¬ GB s := fun h h2 => h h2.1
    cases hp : posI s (hdP s) (3 * N) with
    | none =>
      have hb := ho2 hp
      subst hb
      simp only [go_sem, ↓reduceIte, Nat.reduceEqDiff, reduceCtorEq, Nat.reduceAdd, Nat.reduceLeDiff, Nat.reduceMul, k0, k4, k5]
      refine BsR.no (no fun ⟨a, b, h1, h2⟩ => ?_) (FreshS.nil kH)
      rw [← h1, ← hNs a h1, hp] at h2
      cases h2
    | some b =>
      obtain ⟨rfl, hb⟩ := ho1 _ hp
      subst hb
      obtain ⟨c, hc⟩ : ∃ c, hdP s = some c := by
        cases hh : hdP s with
        | none => rw [hh, posI_none] at hp; cases hp
        | some c => exact ⟨c, rfl⟩
      have hNn := hNs c hc
      have hne : decide (s = (⟨#[]⟩ : ByteArray)) = false := decide_eq_false fun e => by
        have h1 := (nP_le hc).2.1
        subst e
        have := stepP_le (Nat.zero_le _) h1
        have hz : (⟨#[]⟩ : ByteArray).size = 0 := rfl
        omega
      have hGB : GB s ↔ showB (rowsP s (hdP s) N) = s := by
        unfold GB
        rw [← hNn]
        exact ⟨fun h => h.2, fun h => ⟨⟨c, a, hc, by rw [← hc]; exact hp⟩, h⟩⟩
      simp only [go_sem, ↓reduceIte, Nat.reduceEqDiff, reduceCtorEq, Nat.reduceAdd, Nat.reduceLeDiff, Nat.reduceMul, k0, k4, k5, hne, a26, hw.pre kH]
      refine brT.intro (fun q3 => ?_) (fun q3 => ?_) <;> simp only [go_sem, ↓reduceIte, Nat.reduceEqDiff, reduceCtorEq, Nat.reduceAdd, Nat.reduceLeDiff, Nat.reduceMul, k0, k4, k5]
      · have q3' : showB (rowsP s (hdP s) N) = s := of_decide_eq_true q3
        exact ⟨_, _, _, rfl, ⟨kH, ks, ko.mono (by omega)⟩, .inl ⟨hGB.2 q3', rfl, by rw [hNn]⟩⟩
      · have q3' : ¬ showB (rowsP s (hdP s) N) = s := of_decide_eq_false q3
        exact BsR.no (fun h => q3' (hGB.1 h)) (FreshS.nil kH)

end Go.Proofs.Ytjepmnmakemfoaa.Ev

/- What a table's text says is the table: plain. -/
namespace Go.Proofs.Ytjepmnmakemfoaa.Ev
set_option linter.all false
open Go

def rwL (z : Rw) : List Int := [z.1, z.2.1, z.2.2]
def bsL (l : List Rw) : List Int := (l.length : Int) :: l.flatMap rwL
theorem addR_vs (s : ByteArray) (z : Rw) : addR s z = s ++ vsT (rwL z) := by
  simp only [addR, rwL, vsT, cat_nil, cat_assoc]
theorem fold_vs : ∀ (l : List Rw) (s : ByteArray), l.foldl addR s = s ++ vsT (l.flatMap rwL)
  | [], s => by simp [vsT]
  | z :: l, s => by rw [List.foldl_cons, fold_vs l, addR_vs, List.flatMap_cons, vsT_app, cat_assoc]
theorem showB_vs {l : List Rw} (h : TbOk l) : showB l = vsT (bsL l) := by
  unfold showB
  rw [if_pos (tbOk_yes h)]
  unfold showN
  rw [List.take_length, fold_vs]
  simp only [bsL, vsT]
theorem flat_get {l : List Rw} : ∀ {j k : Nat} {z : Rw}, l[j]? = some z → k < 3 → (l.flatMap rwL)[3 * j + k]? = (rwL z)[k]? := by
  induction l with
  | nil => intro j k z h; simp at h
  | cons a l ih =>
    intro j k z h hk
    rw [List.flatMap_cons]
    cases j with
    | zero =>
      simp at h
      subst h
      rw [List.getElem?_append_left (by simp [rwL]; omega)]
      congr 1
      omega
    | succ j =>
      rw [List.getElem?_append_right (by simp [rwL]; omega)]
      rw [List.getElem?_cons_succ] at h
      have := ih h hk
      rw [← this]
      congr 1
      simp [rwL]
      omega
theorem flat_len (l : List Rw) : (l.flatMap rwL).length = 3 * l.length := by
  induction l with
  | nil => rfl
  | cons a l ih => rw [List.flatMap_cons, List.length_append, ih]; simp [rwL]; omega
theorem tb_row {l : List Rw} (h : TbOk l) {z : Rw} (hz : z ∈ l) : rowOkB z = true := by
  obtain ⟨j, hj, rfl⟩ := List.mem_iff_getElem.1 hz
  exact ((rowAt_at hj).1 (h.2 j hj)).1

/-- A right table's text is read as it. -/
theorem read_store {l : List Rw} (h : TbOk l) : GB (showB l) ∧ rowsP (showB l) (hdP (showB l)) (nP (showB l)) = l := by
  have h20 := h.1
  have hin : ∀ n ∈ bsL l, VIn n := fun n hn => by
    simp only [bsL, List.mem_cons, List.mem_flatMap, rwL] at hn
    unfold VIn
    rcases hn with rfl | ⟨z, hz, hn⟩
    · omega
    · have := tb_row h hz
      simp only [rowOkB, Bool.and_eq_true, inB_t] at this
      simp only [List.mem_cons, List.not_mem_nil, or_false] at hn
      rcases hn with rfl | rfl | rfl <;> omega
  have hlen : (bsL l).length = 1 + 3 * l.length := by simp only [bsL, List.length_cons, flat_len]; omega
  rw [showB_vs h]
  generalize hs : vsT (bsL l) = s
  have P : ∀ {i : Nat}, i ≤ 1 + 3 * l.length → posI s (some 0) i = some (vsT ((bsL l).take i)).size := fun {i} hi => by subst hs; exact pos_vs hin (by omega)
  have V : ∀ {i : Nat} (hi : i < 1 + 3 * l.length) {n : Int}, (bsL l)[i]? = some n → valP s (posI s (some 0) i) = n := fun {i} hi {n} hn => by
    subst hs
    rw [val_vs hin (by omega)]
    rw [List.getElem?_eq_getElem (by omega)] at hn
    exact Option.some.inj hn
  have v1 : valP s (some 0) = (l.length : Int) := V (i := 0) (by omega) rfl
  have hh : hdP s = posI s (some 0) 1 := by
    unfold hdP manyP
    rw [v1, if_neg (by omega)]
    rfl
  have hn : nP s = l.length := by unfold nP; rw [v1]; simp
  have hadd : ∀ k, posI s (hdP s) k = posI s (some 0) (1 + k) := fun k => by rw [hh, ← posI_add]
  have hrows : rowsP s (hdP s) (nP s) = l := by
    refine List.ext_getElem? fun j => ?_
    rw [hn]
    by_cases hj : j < l.length
    · have hz : l[j]? = some l[j] := List.getElem?_eq_getElem hj
      have g : ∀ k, k < 3 → (bsL l)[1 + (3 * j + k)]? = (rwL l[j])[k]? := fun k hk => by
        rw [← flat_get hz hk]
        simp only [bsL]
        rw [show 1 + (3 * j + k) = (3 * j + k) + 1 by omega, List.getElem?_cons_succ]
      have v : ∀ k, k < 3 → ∀ n, (rwL l[j])[k]? = some n → valP s (posI s (hdP s) (3 * j + k)) = n := fun k hk n hn2 => by
        rw [hadd]
        exact V (by omega) ((g k hk).trans hn2)
      rw [hz]
      unfold rowsP
      rw [List.getElem?_map, List.getElem?_range hj]
      simp only [Option.map_some, Option.some.injEq, rowP]
      rw [← posI_add, ← posI_add]
      have a0 := v 0 (by omega) _ rfl
      have a1 := v 1 (by omega) _ rfl
      have a2 := v 2 (by omega) _ rfl
      rw [Nat.add_zero] at a0
      rw [a0, a1, a2]
    · rw [List.getElem?_eq_none (by rw [rowsP_len]; omega), List.getElem?_eq_none (by omega)]
  have h2 : posI s (some (vsT ((bsL l).take 1)).size) (3 * nP s) = some (vsT ((bsL l).take (1 + 3 * l.length))).size := by
    have := hadd (3 * nP s)
    rw [hh, P (by omega)] at this
    rw [this, hn]
    exact P (by omega)
  exact ⟨⟨⟨_, _, hh.trans (P (by omega)), h2⟩, by rw [hrows, showB_vs h, hs]⟩, hrows⟩
theorem GB_empty : ¬ GB ⟨#[]⟩ := fun h => by
  obtain ⟨⟨a, b, h1, _⟩, _⟩ := h
  have h2 := nP_le h1
  have h3 : stepP ⟨#[]⟩ (some 0) = none := by
    have := rdV_le (rest (⟨#[]⟩ : ByteArray) 0)
    rw [rest_size] at this
    simp only [stepP]
    rw [if_pos (by have : (⟨#[]⟩ : ByteArray).size = 0 := rfl; omega)]
  rw [h3] at h2
  cases h2.2.1
/-- What is read of a table's text. -/
theorem RB_show {l l2 : List Rw} {ok : Bool} (h : RB (showB l) l2 ok) : ok = tbOk l ∧ (ok = true → l2 = l) := by
  cases hB : tbOk l with
  | true =>
    have hr := read_store (tbOk_t.1 hB)
    rcases h with ⟨_, rfl, rfl⟩ | ⟨hn, _⟩
    · exact ⟨rfl, fun _ => hr.2⟩
    · exact absurd hr.1 hn
  | false =>
    have e : showB l = ⟨#[]⟩ := by unfold showB; rw [hB]; rfl
    rw [e] at h
    rcases h with ⟨hy, _⟩ | ⟨_, rfl, _⟩
    · exact absurd hy GB_empty
    · exact ⟨rfl, fun h => by cases h⟩
theorem RB_text {s : ByteArray} {l : List Rw} {ok : Bool} (h : RB s l ok) (hk : ok = true) : showB l = s := by
  rcases h with ⟨hy, _, rfl⟩ | ⟨_, rfl, _⟩
  · exact hy.2
  · cases hk
end Go.Proofs.Ytjepmnmakemfoaa.Ev
