/- Texts of this proof, laid one behind the other: what each shows stands at its head. -/
import Derived.Test.YtjepmnmakemfoaaB3
/- Draws: the cursor, numbers, choices and texts drawn by it. -/
namespace Go.Proofs.Ytjepmnmakemfoaa.Ev
set_option linter.all false
open Go
set_option maxRecDepth 4000

theorem fun_t {E : Env} {m : Md} {f : Nat} {cf : CF} {vs : List Value} {H : Hp} {Q : Value → Hp → Prop} (ht : E.tr f = true) (hp : E.prim f = none) (hf : E.fns f = some cf) (hl : vs.length ≤ cf.nt)
    (h : ∀ m' : Md, (∀ id, m'.wr id = m.wr id) → go E m' [.c cf.body] { ρ := ini vs, gn := 0, H := H } (Post cf.res true H Q)) : Fun E m f vs H Q :=
  fun_ok ht hp hf hl (h _ fun _ => rfl)
theorem callD {E : Env} {m : Md} {f : Nat} {vs : List Value} {H : Hp} {P : Value → Hp → Prop} {s : St} {d : Option Nat} {ts : List Tk} {Q : Ex → St → Prop} (h : Fun E m f vs H P) (hH : s.H = H)
    (hq : ∀ r H', P r H' → go E m ts { s with H := H', ρ := upd s.ρ d (.val r) } Q) : callT E m false f (some vs) s d ts Q := by
  subst hH
  unfold callT opt
  exact h.mono hq

def eU (n : Int) : List Value := [.int .u8 n]
abbrev SlU (H : Hp) (v : Value) (l : List Int) : Prop := Sl (En eU) 1 H v l
theorem Sl.byte {H : Hp} {v : Value} {l : List Int} (h : SlU H v l) {i : Nat} {a : Int} (hi : l[i]? = some a) : ∃ id p o, H[id]? = some o ∧ o[p]? = some (.int .u8 a) ∧
    ∀ (s : St) (x y : X), exv s.ρ x = some v → exv s.ρ y = some (.int .i64 i) → iadrK s 1 x y = some (.val (.pointer (some ⟨id, p, some o.length⟩)), s) := by
  obtain ⟨id, p, o, ho, hr, hp, hia⟩ := h.elem hi
  unfold En at hr
  exact ⟨id, p, o, ho, by simpa [eU] using getElem?_of_take hr (j := 0) (by omega), hia⟩

/-- A cursor over a draw's bytes. -/
def Cur (H : Hp) (c : Value) (id : Nat) : Prop := c = .pointer (some ⟨id, 0, some 3⟩) ∧ ∃ b i h bl, H[id]? = some [b, .int .i64 i, .int .i64 h] ∧ SlU H b bl ∧ 0 ≤ i ∧ ∀ j ∈ idsOf b, j < id
/-- The cursor has gone on; no more has been done. -/
def CS (H H' : Hp) (c : Value) (id : Nat) : Prop := Cur H' c id ∧ (∀ j, j ≠ id → H'[j]? = H[j]?) ∧ H'.length = H.length
/-- The cursor has gone on; new rows have come. -/
def CX (H H' : Hp) (c : Value) (id : Nat) : Prop := Cur H' c id ∧ (∀ j, j < H.length → j ≠ id → H'[j]? = H[j]?) ∧ H.length ≤ H'.length

theorem CS.trans {H H' H'' : Hp} {c : Value} {id : Nat} (h : CS H H' c id) (k : CS H' H'' c id) : CS H H'' c id := ⟨k.1, fun j hj => (k.2.1 j hj).trans (h.2.1 j hj), k.2.2.trans h.2.2⟩
theorem CS.cx {H H' : Hp} {c : Value} {id : Nat} (h : CS H H' c id) : CX H H' c id := ⟨h.1, fun j _ hj => h.2.1 j hj, by have := h.2.2; omega⟩
theorem CX.trans {H H' H'' : Hp} {c : Value} {id : Nat} (h : CX H H' c id) (k : CX H' H'' c id) : CX H H'' c id := ⟨k.1, fun j hl hj => (k.2.1 j (by have := h.2.2; omega) hj).trans (h.2.1 j hl hj), Nat.le_trans h.2.2 k.2.2⟩
theorem CX.refl {H : Hp} {c : Value} {id : Nat} (h : Cur H c id) : CX H H c id := ⟨h, fun _ _ _ => rfl, Nat.le_refl _⟩
theorem Sl.cs {α : Type} {R : α → List Value → Prop} {esz : Nat} {H H' : Hp} {v c : Value} {l : List α} {id : Nat} (h : Sl R esz H v l) (hc : CS H H' c id) (hid : id ∉ idsOf v) : Sl R esz H' v l :=
  h.frame (fun _ _ _ h => h) fun i off e ln cap hv => hc.2.1 i (fun e2 => hid (by subst hv; subst e2; simp [idsOf]))
theorem Sl.cx {α : Type} {R : α → List Value → Prop} {esz : Nat} {H H' : Hp} {v c : Value} {l : List α} {id : Nat} (h : Sl R esz H v l) (hc : CX H H' c id) (hid : id ∉ idsOf v) : Sl R esz H' v l :=
  h.frame (fun _ _ _ h => h) fun i off e ln cap hv => hc.2.1 i (h.ids i (by subst hv; simp [idsOf])) (fun e2 => hid (by subst hv; subst e2; simp [idsOf]))

theorem Cur.keep {H H' : Hp} {c : Value} {id : Nat} (h : Cur H c id) (hk : ∀ j, j ≤ id → H'[j]? = H[j]?) : Cur H' c id := by
  obtain ⟨rfl, b, i, g, bl, hid, hb, hi, hnb⟩ := h
  exact ⟨rfl, b, i, g, bl, by rw [hk id (Nat.le_refl _)]; exact hid, hb.frame (fun _ _ _ h => h) (fun x off e ln cap hv => hk x (Nat.le_of_lt (hnb x (by subst hv; simp [idsOf])))), hi, hnb⟩
theorem Cur.lt {H : Hp} {c : Value} {id : Nat} (h : Cur H c id) : id < H.length := by
  obtain ⟨rfl, b, i, g, bl, hid, _⟩ := h
  exact (List.getElem?_eq_some_iff.1 hid).1
theorem Cur.pre {H H' : Hp} {c : Value} {id : Nat} (h : Cur H c id) (hp : H <+: H') : Cur H' c id := h.keep fun j hj => pre_get hp (by have := h.lt; omega)
theorem CX.ofPre {H H' : Hp} {c : Value} {id : Nat} (h : Cur H c id) (hp : H <+: H') : CX H H' c id := ⟨h.pre hp, fun j hj _ => pre_get hp hj, hp.length_le⟩
/-- Rows of one's own have changed; the cursor hasn't. -/
theorem CX.own {H H1 H' : Hp} {c : Value} {id : Nat} (h : CX H H1 c id) (hid : id < H.length) (hk : ∀ j, j < H.length → H'[j]? = H1[j]?) (hl : H1.length ≤ H'.length) : CX H H' c id :=
  ⟨h.1.keep fun j hj => hk j (by omega), fun j hj hne => (hk j hj).trans (h.2.1 j hj hne), Nat.le_trans h.2.2 hl⟩
theorem CX.cut {H H' : Hp} {c : Value} {id : Nat} (h : CX H H' c id) (hid : id < H.length) : CS H (H'.take H.length) c id := by
  have hl : (H'.take H.length).length = H.length := by rw [List.length_take]; have := h.2.2; omega
  refine ⟨h.1.keep fun j hj => by rw [List.getElem?_take, if_pos (by omega)], fun j hj => ?_, hl⟩
  by_cases hjl : j < H.length
  · rw [List.getElem?_take, if_pos hjl]; exact h.2.1 j hjl hj
  · rw [List.getElem?_eq_none (by omega), List.getElem?_eq_none (by omega)]
theorem CS.cut {H H' : Hp} {c : Value} {id : Nat} (h : CS H H' c id) : CS H (H'.take H.length) c id := by
  rw [List.take_of_length_le (Nat.le_of_eq h.2.2)]; exact h
theorem CX.pre {H0 H H' : Hp} {c : Value} {id : Nat} (h : CX H H' c id) (hp : H0 <+: H) (hid : H0.length ≤ id) : H0 <+: H' := by
  refine List.prefix_iff_getElem?.2 fun j hj => ?_
  have := hp.length_le
  rw [h.2.1 j (by omega) (by omega), pre_get hp hj, List.getElem?_eq_getElem hj]

theorem and255 (a : Int) : 0 ≤ IntKind.i64.wrap ((BitVec.ofInt IntKind.i64.bits a &&& BitVec.ofInt IntKind.i64.bits 255).toNat : Int) ∧ IntKind.i64.wrap ((BitVec.ofInt IntKind.i64.bits a &&& BitVec.ofInt IntKind.i64.bits 255).toNat : Int) ≤ 255 := by
  have h : (BitVec.ofInt IntKind.i64.bits a &&& BitVec.ofInt IntKind.i64.bits 255).toNat ≤ 255 := by
    rw [BitVec.toNat_and]
    refine Nat.le_trans (Nat.and_le_right) ?_
    decide
  rw [wrap64 _ (by omega) (by omega)]
  omega

theorem f91 {m : Md} {H : Hp} {c : Value} {id : Nat} (hc : Cur H c id) (hw : m.wr id = true) : Fun EE m 91 [c] H fun r H' => ∃ x : Int, r = .int .i64 x ∧ 0 ≤ x ∧ x ≤ 255 ∧ CS H H' c id := by
  refine fun_t rfl rfl k91 (by simp [c91]) fun m' hm => ?_
  have hw : m'.wr id = true := (hm id).trans hw
  obtain ⟨rfl, b, i, h, bl, hid, hb, hi, hnb0⟩ := hc
  have hnb : id ∉ idsOf b := fun hm => by have := hnb0 _ hm; omega
  have hidl := (List.getElem?_eq_some_iff.1 hid).1
  have hset : ∀ q, (H.set id q)[id]? = some q := fun q => List.getElem?_set_self hidl
  have hroom := hb.room
  simp only [go_nil, go_blk, go_skip, go_ret, go_exit, go_seq, go_block, go_reg, go_r0, go_r, go_d0, go_d, go_e0, go_e, box2, Option.isSome_some, Nat.le_refl, go_cond, go_o, go_g, aft_some, cnd_bool, grd_bool, grd_tup, brT_true, brT_false, brT_not, thr_exit, thr_c, thr_nil, stp, stepK, movK, mv1, ex, exv, exvs, upd_some, upd_none, ini, St.val, binK, binV, ofV, pickK, unK, unV, beqK, beq_true, beq_false, if_true, if_false, List.getElem?_cons_zero, List.getElem?_cons_succ, ↓reduceIte, Nat.reduceEqDiff, reduceCtorEq, loadK, adr, deref, Ad.fv, Ad.live, fadrK, List.length_cons, List.length_nil, List.drop_zero, List.drop_succ_cons, List.take_succ_cons, List.take_zero, Nat.reduceAdd, Nat.reduceLeDiff, Nat.zero_add, Nat.add_zero, aeqK, agEq, scEq, boxVK, newVK, exc, vc_agg, vc_int, vc_bool, vc_str, vc_ptr, vc_sl, vc_fn, boxOf, adInf, List.reverse_cons, List.reverse_nil, List.nil_append, List.cons_append, extK, Bool.and_true, Bool.true_and, Bool.not_true, Bool.not_false, resT, resVs, resV, true_and, and_true, storeK, spl_nil, spl_z, spl_1, spl_2, spl_3, spl_4, spl_5, spl_6, spl_7, spl_8, scal_int, scal_bool, scal_str, scal_nil, implies_true, Bool.and_self, Post_ret, Post_normal, PostS_ret, PostS_normal, retT_true, retT_false, flat_bool, flat_int, flat_str, List.take_length, decide_true, decide_false, Option.some.injEq, Value.bool.injEq, Value.int.injEq, Bool.false_and, Bool.and_false, not_false_eq_true, not_true_eq_false, toIntK, List.length_set, Nat.reduceMul, Bool.not_eq_true, Bool.not_eq_false, List.all_cons, List.all_nil, exps, fillL, buildK, strK, nilcK, fnK, callVT, List.size_toArray, List.append_nil, List.singleton_append, boxOK, newOK, scal_nil, List.isEmpty_nil, List.isEmpty_cons, mkVK, mkOK, mkCells, zeros_0, zeros_1, zeros_2, zeros_3, zeros_4, List.map_cons, List.map_nil, c91, hid, hw]
  refine go_draw ?_
  simp only [go_nil, go_blk, go_skip, go_ret, go_exit, go_seq, go_block, go_reg, go_r0, go_r, go_d0, go_d, go_e0, go_e, box2, Option.isSome_some, Nat.le_refl, go_cond, go_o, go_g, aft_some, cnd_bool, grd_bool, grd_tup, brT_true, brT_false, brT_not, thr_exit, thr_c, thr_nil, stp, stepK, movK, mv1, ex, exv, exvs, upd_some, upd_none, ini, St.val, binK, binV, ofV, pickK, unK, unV, beqK, beq_true, beq_false, if_true, if_false, List.getElem?_cons_zero, List.getElem?_cons_succ, ↓reduceIte, Nat.reduceEqDiff, reduceCtorEq, loadK, adr, deref, Ad.fv, Ad.live, fadrK, List.length_cons, List.length_nil, List.drop_zero, List.drop_succ_cons, List.take_succ_cons, List.take_zero, Nat.reduceAdd, Nat.reduceLeDiff, Nat.zero_add, Nat.add_zero, aeqK, agEq, scEq, boxVK, newVK, exc, vc_agg, vc_int, vc_bool, vc_str, vc_ptr, vc_sl, vc_fn, boxOf, adInf, List.reverse_cons, List.reverse_nil, List.nil_append, List.cons_append, extK, Bool.and_true, Bool.true_and, Bool.not_true, Bool.not_false, resT, resVs, resV, true_and, and_true, storeK, spl_nil, spl_z, spl_1, spl_2, spl_3, spl_4, spl_5, spl_6, spl_7, spl_8, scal_int, scal_bool, scal_str, scal_nil, implies_true, Bool.and_self, Post_ret, Post_normal, PostS_ret, PostS_normal, retT_true, retT_false, flat_bool, flat_int, flat_str, List.take_length, decide_true, decide_false, Option.some.injEq, Value.bool.injEq, Value.int.injEq, Bool.false_and, Bool.and_false, not_false_eq_true, not_true_eq_false, toIntK, List.length_set, Nat.reduceMul, Bool.not_eq_true, Bool.not_eq_false, List.all_cons, List.all_nil, exps, fillL, buildK, strK, nilcK, fnK, callVT, List.size_toArray, List.append_nil, List.singleton_append, boxOK, newOK, scal_nil, List.isEmpty_nil, List.isEmpty_cons, mkVK, mkOK, mkCells, zeros_0, zeros_1, zeros_2, zeros_3, zeros_4, List.map_cons, List.map_nil, hset, Int.reduceLT, Bool.false_eq_true]
  refine ⟨by rfl, ?_⟩
  refine go_draw ?_
  simp only [go_nil, go_blk, go_skip, go_ret, go_exit, go_seq, go_block, go_reg, go_r0, go_r, go_d0, go_d, go_e0, go_e, box2, Option.isSome_some, Nat.le_refl, go_cond, go_o, go_g, aft_some, cnd_bool, grd_bool, grd_tup, brT_true, brT_false, brT_not, thr_exit, thr_c, thr_nil, stp, stepK, movK, mv1, ex, exv, exvs, upd_some, upd_none, ini, St.val, binK, binV, ofV, pickK, unK, unV, beqK, beq_true, beq_false, if_true, if_false, List.getElem?_cons_zero, List.getElem?_cons_succ, ↓reduceIte, Nat.reduceEqDiff, reduceCtorEq, loadK, adr, deref, Ad.fv, Ad.live, fadrK, List.length_cons, List.length_nil, List.drop_zero, List.drop_succ_cons, List.take_succ_cons, List.take_zero, Nat.reduceAdd, Nat.reduceLeDiff, Nat.zero_add, Nat.add_zero, aeqK, agEq, scEq, boxVK, newVK, exc, vc_agg, vc_int, vc_bool, vc_str, vc_ptr, vc_sl, vc_fn, boxOf, adInf, List.reverse_cons, List.reverse_nil, List.nil_append, List.cons_append, extK, Bool.and_true, Bool.true_and, Bool.not_true, Bool.not_false, resT, resVs, resV, true_and, and_true, storeK, spl_nil, spl_z, spl_1, spl_2, spl_3, spl_4, spl_5, spl_6, spl_7, spl_8, scal_int, scal_bool, scal_str, scal_nil, implies_true, Bool.and_self, Post_ret, Post_normal, PostS_ret, PostS_normal, retT_true, retT_false, flat_bool, flat_int, flat_str, List.take_length, decide_true, decide_false, Option.some.injEq, Value.bool.injEq, Value.int.injEq, Bool.false_and, Bool.and_false, not_false_eq_true, not_true_eq_false, toIntK, List.length_set, Nat.reduceMul, Bool.not_eq_true, Bool.not_eq_false, List.all_cons, List.all_nil, exps, fillL, buildK, strK, nilcK, fnK, callVT, List.size_toArray, List.append_nil, List.singleton_append, boxOK, newOK, scal_nil, List.isEmpty_nil, List.isEmpty_cons, mkVK, mkOK, mkCells, zeros_0, zeros_1, zeros_2, zeros_3, zeros_4, List.map_cons, List.map_nil, hset, Int.reduceLT]
  simp only [go_nil, go_blk, go_skip, go_ret, go_exit, go_seq, go_block, go_reg, go_r0, go_r, go_d0, go_d, go_e0, go_e, box2, Option.isSome_some, Nat.le_refl, go_cond, go_o, go_g, aft_some, cnd_bool, grd_bool, grd_tup, brT_true, brT_false, brT_not, thr_exit, thr_c, thr_nil, stp, stepK, movK, mv1, ex, exv, exvs, upd_some, upd_none, ini, St.val, binK, binV, ofV, pickK, unK, unV, beqK, beq_true, beq_false, if_true, if_false, List.getElem?_cons_zero, List.getElem?_cons_succ, ↓reduceIte, Nat.reduceEqDiff, reduceCtorEq, loadK, adr, deref, Ad.fv, Ad.live, fadrK, List.length_cons, List.length_nil, List.drop_zero, List.drop_succ_cons, List.take_succ_cons, List.take_zero, Nat.reduceAdd, Nat.reduceLeDiff, Nat.zero_add, Nat.add_zero, aeqK, agEq, scEq, boxVK, newVK, exc, vc_agg, vc_int, vc_bool, vc_str, vc_ptr, vc_sl, vc_fn, boxOf, adInf, List.reverse_cons, List.reverse_nil, List.nil_append, List.cons_append, extK, Bool.and_true, Bool.true_and, Bool.not_true, Bool.not_false, resT, resVs, resV, true_and, and_true, storeK, spl_nil, spl_z, spl_1, spl_2, spl_3, spl_4, spl_5, spl_6, spl_7, spl_8, scal_int, scal_bool, scal_str, scal_nil, implies_true, Bool.and_self, Post_ret, Post_normal, PostS_ret, PostS_normal, retT_true, retT_false, flat_bool, flat_int, flat_str, List.take_length, decide_true, decide_false, Option.some.injEq, Value.bool.injEq, Value.int.injEq, Bool.false_and, Bool.and_false, not_false_eq_true, not_true_eq_false, toIntK, List.length_set, Nat.reduceMul, Bool.not_eq_true, Bool.not_eq_false, List.all_cons, List.all_nil, exps, fillL, buildK, strK, nilcK, fnK, callVT, List.size_toArray, List.append_nil, List.singleton_append, boxOK, newOK, scal_nil, List.isEmpty_nil, List.isEmpty_cons, mkVK, mkOK, mkCells, zeros_0, zeros_1, zeros_2, zeros_3, zeros_4, List.map_cons, List.map_nil, hb.len, Int.reduceLT]
  refine ⟨by rfl, ?_⟩
  have done : ∀ (i' h' : Int) (q : List Value), 0 ≤ i' → q = [b, .int .i64 i', .int .i64 h'] → CS H (H.set id q) (.pointer (some ⟨id, 0, some 3⟩)) id := fun i' h' q hi' hq => by
    subst hq
    exact ⟨⟨rfl, b, i', h', bl, hset _, hb.other hnb, hi', hnb0⟩, fun j hj => List.getElem?_set_ne (fun e => hj e.symm), by simp⟩
  have hcut : ∀ q : List Value, (H.set id q).take H.length = H.set id q := fun q => List.take_of_length_le (by simp)
  refine brT.intro (fun c1 => ?_) (fun c1 => ?_)
  · obtain ⟨k, rfl⟩ : ∃ k : Nat, i = k := ⟨i.toNat, by omega⟩
    have hk : k < bl.length := by have := of_decide_eq_true c1; omega
    obtain ⟨idb, pb, ob, hob, hrb, hiab⟩ := (hb.other (r := [b, .int .i64 k, .int .i64 (IntKind.i64.wrap (IntKind.i64.wrap (h * 6364136223846793005) + 1442695040888963407))]) hnb).byte (List.getElem?_eq_getElem hk)
    simp only [go_nil, go_blk, go_skip, go_ret, go_exit, go_seq, go_block, go_reg, go_r0, go_r, go_d0, go_d, go_e0, go_e, box2, Option.isSome_some, Nat.le_refl, go_cond, go_o, go_g, aft_some, cnd_bool, grd_bool, grd_tup, brT_true, brT_false, brT_not, thr_exit, thr_c, thr_nil, stp, stepK, movK, mv1, ex, exv, exvs, upd_some, upd_none, ini, St.val, binK, binV, ofV, pickK, unK, unV, beqK, beq_true, beq_false, if_true, if_false, List.getElem?_cons_zero, List.getElem?_cons_succ, ↓reduceIte, Nat.reduceEqDiff, reduceCtorEq, loadK, adr, deref, Ad.fv, Ad.live, fadrK, List.length_cons, List.length_nil, List.drop_zero, List.drop_succ_cons, List.take_succ_cons, List.take_zero, Nat.reduceAdd, Nat.reduceLeDiff, Nat.zero_add, Nat.add_zero, aeqK, agEq, scEq, boxVK, newVK, exc, vc_agg, vc_int, vc_bool, vc_str, vc_ptr, vc_sl, vc_fn, boxOf, adInf, List.reverse_cons, List.reverse_nil, List.nil_append, List.cons_append, extK, Bool.and_true, Bool.true_and, Bool.not_true, Bool.not_false, resT, resVs, resV, true_and, and_true, storeK, spl_nil, spl_z, spl_1, spl_2, spl_3, spl_4, spl_5, spl_6, spl_7, spl_8, scal_int, scal_bool, scal_str, scal_nil, implies_true, Bool.and_self, Post_ret, Post_normal, PostS_ret, PostS_normal, retT_true, retT_false, flat_bool, flat_int, flat_str, List.take_length, decide_true, decide_false, Option.some.injEq, Value.bool.injEq, Value.int.injEq, Bool.false_and, Bool.and_false, not_false_eq_true, not_true_eq_false, toIntK, List.length_set, Nat.reduceMul, Bool.not_eq_true, Bool.not_eq_false, List.all_cons, List.all_nil, exps, fillL, buildK, strK, nilcK, fnK, callVT, List.size_toArray, List.append_nil, List.singleton_append, boxOK, newOK, scal_nil, List.isEmpty_nil, List.isEmpty_cons, mkVK, mkOK, mkCells, zeros_0, zeros_1, zeros_2, zeros_3, zeros_4, List.map_cons, List.map_nil]
    refine go_draw ?_
    simp only [go_nil, go_blk, go_skip, go_ret, go_exit, go_seq, go_block, go_reg, go_r0, go_r, go_d0, go_d, go_e0, go_e, box2, Option.isSome_some, Nat.le_refl, go_cond, go_o, go_g, aft_some, cnd_bool, grd_bool, grd_tup, brT_true, brT_false, brT_not, thr_exit, thr_c, thr_nil, stp, stepK, movK, mv1, ex, exv, exvs, upd_some, upd_none, ini, St.val, binK, binV, ofV, pickK, unK, unV, beqK, beq_true, beq_false, if_true, if_false, List.getElem?_cons_zero, List.getElem?_cons_succ, ↓reduceIte, Nat.reduceEqDiff, reduceCtorEq, loadK, adr, deref, Ad.fv, Ad.live, fadrK, List.length_cons, List.length_nil, List.drop_zero, List.drop_succ_cons, List.take_succ_cons, List.take_zero, Nat.reduceAdd, Nat.reduceLeDiff, Nat.zero_add, Nat.add_zero, aeqK, agEq, scEq, boxVK, newVK, exc, vc_agg, vc_int, vc_bool, vc_str, vc_ptr, vc_sl, vc_fn, boxOf, adInf, List.reverse_cons, List.reverse_nil, List.nil_append, List.cons_append, extK, Bool.and_true, Bool.true_and, Bool.not_true, Bool.not_false, resT, resVs, resV, true_and, and_true, storeK, spl_nil, spl_z, spl_1, spl_2, spl_3, spl_4, spl_5, spl_6, spl_7, spl_8, scal_int, scal_bool, scal_str, scal_nil, implies_true, Bool.and_self, Post_ret, Post_normal, PostS_ret, PostS_normal, retT_true, retT_false, flat_bool, flat_int, flat_str, List.take_length, decide_true, decide_false, Option.some.injEq, Value.bool.injEq, Value.int.injEq, Bool.false_and, Bool.and_false, not_false_eq_true, not_true_eq_false, toIntK, List.length_set, Nat.reduceMul, Bool.not_eq_true, Bool.not_eq_false, List.all_cons, List.all_nil, exps, fillL, buildK, strK, nilcK, fnK, callVT, List.size_toArray, List.append_nil, List.singleton_append, boxOK, newOK, scal_nil, List.isEmpty_nil, List.isEmpty_cons, mkVK, mkOK, mkCells, zeros_0, zeros_1, zeros_2, zeros_3, zeros_4, List.map_cons, List.map_nil, hset, hiab, hob, hrb, Int.reduceLT]
    refine ⟨by rfl, ?_⟩
    simp only [go_nil, go_blk, go_skip, go_ret, go_exit, go_seq, go_block, go_reg, go_r0, go_r, go_d0, go_d, go_e0, go_e, box2, Option.isSome_some, Nat.le_refl, go_cond, go_o, go_g, aft_some, cnd_bool, grd_bool, grd_tup, brT_true, brT_false, brT_not, thr_exit, thr_c, thr_nil, stp, stepK, movK, mv1, ex, exv, exvs, upd_some, upd_none, ini, St.val, binK, binV, ofV, pickK, unK, unV, beqK, beq_true, beq_false, if_true, if_false, List.getElem?_cons_zero, List.getElem?_cons_succ, ↓reduceIte, Nat.reduceEqDiff, reduceCtorEq, loadK, adr, deref, Ad.fv, Ad.live, fadrK, List.length_cons, List.length_nil, List.drop_zero, List.drop_succ_cons, List.take_succ_cons, List.take_zero, Nat.reduceAdd, Nat.reduceLeDiff, Nat.zero_add, Nat.add_zero, aeqK, agEq, scEq, boxVK, newVK, exc, vc_agg, vc_int, vc_bool, vc_str, vc_ptr, vc_sl, vc_fn, boxOf, adInf, List.reverse_cons, List.reverse_nil, List.nil_append, List.cons_append, extK, Bool.and_true, Bool.true_and, Bool.not_true, Bool.not_false, resT, resVs, resV, true_and, and_true, storeK, spl_nil, spl_z, spl_1, spl_2, spl_3, spl_4, spl_5, spl_6, spl_7, spl_8, scal_int, scal_bool, scal_str, scal_nil, implies_true, Bool.and_self, Post_ret, Post_normal, PostS_ret, PostS_normal, retT_true, retT_false, flat_bool, flat_int, flat_str, List.take_length, decide_true, decide_false, Option.some.injEq, Value.bool.injEq, Value.int.injEq, Bool.false_and, Bool.and_false, not_false_eq_true, not_true_eq_false, toIntK, List.length_set, Nat.reduceMul, Bool.not_eq_true, Bool.not_eq_false, List.all_cons, List.all_nil, exps, fillL, buildK, strK, nilcK, fnK, callVT, List.size_toArray, List.append_nil, List.singleton_append, boxOK, newOK, scal_nil, List.isEmpty_nil, List.isEmpty_cons, mkVK, mkOK, mkCells, zeros_0, zeros_1, zeros_2, zeros_3, zeros_4, List.map_cons, List.map_nil, hset, hw, List.set_set, wrap64 ((k : Int) + 1) (by omega) (by omega), hcut]
    exact ⟨_, rfl, (and255 _).1, (and255 _).2, done _ _ _ (by omega) rfl⟩
  · simp only [go_nil, go_blk, go_skip, go_ret, go_exit, go_seq, go_block, go_reg, go_r0, go_r, go_d0, go_d, go_e0, go_e, box2, Option.isSome_some, Nat.le_refl, go_cond, go_o, go_g, aft_some, cnd_bool, grd_bool, grd_tup, brT_true, brT_false, brT_not, thr_exit, thr_c, thr_nil, stp, stepK, movK, mv1, ex, exv, exvs, upd_some, upd_none, ini, St.val, binK, binV, ofV, pickK, unK, unV, beqK, beq_true, beq_false, if_true, if_false, List.getElem?_cons_zero, List.getElem?_cons_succ, ↓reduceIte, Nat.reduceEqDiff, reduceCtorEq, loadK, adr, deref, Ad.fv, Ad.live, fadrK, List.length_cons, List.length_nil, List.drop_zero, List.drop_succ_cons, List.take_succ_cons, List.take_zero, Nat.reduceAdd, Nat.reduceLeDiff, Nat.zero_add, Nat.add_zero, aeqK, agEq, scEq, boxVK, newVK, exc, vc_agg, vc_int, vc_bool, vc_str, vc_ptr, vc_sl, vc_fn, boxOf, adInf, List.reverse_cons, List.reverse_nil, List.nil_append, List.cons_append, extK, Bool.and_true, Bool.true_and, Bool.not_true, Bool.not_false, resT, resVs, resV, true_and, and_true, storeK, spl_nil, spl_z, spl_1, spl_2, spl_3, spl_4, spl_5, spl_6, spl_7, spl_8, scal_int, scal_bool, scal_str, scal_nil, implies_true, Bool.and_self, Post_ret, Post_normal, PostS_ret, PostS_normal, retT_true, retT_false, flat_bool, flat_int, flat_str, List.take_length, decide_true, decide_false, Option.some.injEq, Value.bool.injEq, Value.int.injEq, Bool.false_and, Bool.and_false, not_false_eq_true, not_true_eq_false, toIntK, List.length_set, Nat.reduceMul, Bool.not_eq_true, Bool.not_eq_false, List.all_cons, List.all_nil, exps, fillL, buildK, strK, nilcK, fnK, callVT, List.size_toArray, List.append_nil, List.singleton_append, boxOK, newOK, scal_nil, List.isEmpty_nil, List.isEmpty_cons, mkVK, mkOK, mkCells, zeros_0, zeros_1, zeros_2, zeros_3, zeros_4, List.map_cons, List.map_nil, hcut]
    exact ⟨_, rfl, (and255 _).1, (and255 _).2, done _ _ _ hi rfl⟩

/-- A number below another one. -/
def BelowR (H : Hp) (c : Value) (id : Nat) (n : Int) (r : Value) (H' : Hp) : Prop := ∃ x : Int, r = .int .i64 x ∧ 0 ≤ x ∧ (0 < n → x < n) ∧ (n ≤ 0 → x = 0) ∧ CS H H' c id
theorem f89 {m : Md} {H : Hp} {c : Value} {id : Nat} {n : Int} (hc : Cur H c id) (hw : m.wr id = true) : Fun EE m 89 [c, .int .i64 n] H fun r H' => BelowR H c id n r H' := by
  refine fun_t rfl rfl k89 (by simp [c89]) fun m' hm => ?_
  have hw : m'.wr id = true := (hm id).trans hw
  simp only [go_sem, ↓reduceIte, Nat.reduceEqDiff, reduceCtorEq, Nat.reduceAdd, Nat.reduceLeDiff, Nat.reduceMul, c89]
  refine brT.intro (fun q1 => ?_) (fun q1 => ?_) <;> simp only [go_sem, ↓reduceIte, Nat.reduceEqDiff, reduceCtorEq, Nat.reduceAdd, Nat.reduceLeDiff, Nat.reduceMul]
  · exact ⟨0, rfl, by omega, fun h => by have := of_decide_eq_true q1; omega, fun _ => rfl, hc, fun _ _ => rfl, rfl⟩
  have n0 : 0 < n := by have := of_decide_eq_false q1; omega
  have e3 : n ≠ 0 := by omega
  have fin : ∀ {x : Int} {H' : Hp}, 0 ≤ x → CS H H' c id → BelowR H c id n (.int .i64 (Int.tmod x n)) (H'.take H.length) := fun {x H'} hx h => ⟨_, rfl, Int.tmod_nonneg _ hx, fun _ => by rw [Int.tmod_eq_emod_of_nonneg hx]; exact Int.emod_lt_of_pos _ n0, fun h => by omega, h.cut⟩
  refine brT.intro (fun q2 => ?_) (fun q2 => ?_) <;> simp only [go_sem, ↓reduceIte, Nat.reduceEqDiff, reduceCtorEq, Nat.reduceAdd, Nat.reduceLeDiff, Nat.reduceMul]
  · refine callD (f91 hc hw) rfl fun r H1 ⟨x, e, hx0, hx1, hs⟩ => ?_
    subst e
    simp only [go_sem, ↓reduceIte, Nat.reduceEqDiff, reduceCtorEq, Nat.reduceAdd, Nat.reduceLeDiff, Nat.reduceMul, e3]
    exact fin hx0 hs
  refine callD (f91 hc hw) rfl fun r H1 ⟨x, e, hx0, hx1, hs1⟩ => ?_
  subst e
  simp only [go_sem, ↓reduceIte, Nat.reduceEqDiff, reduceCtorEq, Nat.reduceAdd, Nat.reduceLeDiff, Nat.reduceMul]
  refine callD (f91 hs1.1 hw) rfl fun r H2 ⟨y, e, hy0, hy1, hs2⟩ => ?_
  subst e
  simp only [go_sem, ↓reduceIte, Nat.reduceEqDiff, reduceCtorEq, Nat.reduceAdd, Nat.reduceLeDiff, Nat.reduceMul]
  refine callD (f91 hs2.1 hw) rfl fun r H3 ⟨z, e, hz0, hz1, hs3⟩ => ?_
  subst e
  simp only [go_sem, ↓reduceIte, Nat.reduceEqDiff, reduceCtorEq, Nat.reduceAdd, Nat.reduceLeDiff, Nat.reduceMul]
  refine callD (f91 hs3.1 hw) rfl fun r H4 ⟨u, e, hu0, hu1, hs4⟩ => ?_
  subst e
  have a1 := wrap64 (x * 16777216) (by omega) (by omega)
  have a2 := wrap64 (y * 65536) (by omega) (by omega)
  have a3 := wrap64 (x * 16777216 + y * 65536) (by omega) (by omega)
  have a4 := wrap64 (z * 256) (by omega) (by omega)
  have a5 := wrap64 (x * 16777216 + y * 65536 + z * 256) (by omega) (by omega)
  have a6 := wrap64 (x * 16777216 + y * 65536 + z * 256 + u) (by omega) (by omega)
  simp only [go_sem, ↓reduceIte, Nat.reduceEqDiff, reduceCtorEq, Nat.reduceAdd, Nat.reduceLeDiff, Nat.reduceMul, e3, a1, a2, a3, a4, a5, a6]
  exact fin (by omega) (((hs1.trans hs2).trans hs3).trans hs4)

theorem f66 {m : Md} {H : Hp} {c : Value} {id : Nat} {n : Int} (hc : Cur H c id) (hw : m.wr id = true) : Fun EE m 66 [c, .int .i64 n] H fun r H' => ∃ b : Bool, r = .bool b ∧ CS H H' c id := by
  refine fun_t rfl rfl k66 (by simp [c66]) fun m' hm => ?_
  have hw : m'.wr id = true := (hm id).trans hw
  simp only [go_sem, ↓reduceIte, Nat.reduceEqDiff, reduceCtorEq, Nat.reduceAdd, Nat.reduceLeDiff, Nat.reduceMul, c66]
  refine callD (f89 hc hw) rfl fun r H1 ⟨x, e, hx0, hx1, hx2, hs⟩ => ?_
  subst e
  simp only [go_sem, ↓reduceIte, Nat.reduceEqDiff, reduceCtorEq, Nat.reduceAdd, Nat.reduceLeDiff, Nat.reduceMul]
  exact ⟨_, rfl, hs.cut⟩

theorem f64 {m : Md} {H : Hp} {v : Value} {l : List Int} (hl : SlU H v l) : Fun EE m 64 [v] H fun r H' => Cur H' r H.length ∧ H <+: H' ∧ H'.length = H.length + 1 := by
  refine fun_f rfl rfl k64 (by simp [c64]) ?_
  have hroom := hl.room
  simp only [go_sem, ↓reduceIte, Nat.reduceEqDiff, reduceCtorEq, Nat.reduceAdd, Nat.reduceLeDiff, Nat.reduceMul, c64, hl.len]
  refine go_for 4000 (fun i s => s.H = H ∧ s.ρ 0 = .val v ∧ s.ρ 4 = .val (.int .i64 i) ∧ ∃ h : Int, s.ρ 3 = .val (.int .i64 h)) (fun s => s.H = H ∧ s.ρ 0 = .val v ∧ ∃ h : Int, s.ρ 3 = .val (.int .i64 h)) ?_ ?_ ?_
  · exact ⟨rfl, by simp [upd, ini], by simp [upd], _, by simp [upd]; rfl⟩
  · rintro i s hi ⟨hH, h0, h4, h, h3⟩
    simp only [go_sem, ↓reduceIte, Nat.reduceEqDiff, reduceCtorEq, Nat.reduceAdd, Nat.reduceLeDiff, Nat.reduceMul, h0, h3, h4, hl.len]
    refine brT.intro (fun c1 => ?_) (fun c1 => ?_) <;> simp only [go_sem, ↓reduceIte, Nat.reduceEqDiff, reduceCtorEq, Nat.reduceAdd, Nat.reduceLeDiff, Nat.reduceMul, c1, h0, h3, h4]
    · refine brT.intro (fun c2 => ?_) (fun c2 => ?_) <;> simp only [go_sem, ↓reduceIte, Nat.reduceEqDiff, reduceCtorEq, Nat.reduceAdd, Nat.reduceLeDiff, Nat.reduceMul, c1, c2, h0, h3, h4]
      · have hi2 : i < l.length := by have := of_decide_eq_true c1; omega
        have hi3 : i < 4000 := by have := of_decide_eq_true c2; omega
        obtain ⟨id, p, o, ho, hr, hia⟩ := hl.byte (List.getElem?_eq_getElem hi2)
        simp only [go_sem, ↓reduceIte, Nat.reduceEqDiff, reduceCtorEq, Nat.reduceAdd, Nat.reduceLeDiff, Nat.reduceMul, h0, h3, h4, hia, hH, ho, hr, wrap64 ((i : Int) + 1) (by omega) (by omega)]
        exact ⟨hi3, by simp, _, rfl⟩
      · exact ⟨hH, h, rfl⟩
    · exact ⟨hH, h, rfl⟩
  · rintro s ⟨hH, h0, h, h3⟩
    simp only [go_sem, ↓reduceIte, Nat.reduceEqDiff, reduceCtorEq, Nat.reduceAdd, Nat.reduceLeDiff, Nat.reduceMul, h0, h3, hH, hl.vc, exps, fillL, buildK]
    refine ⟨⟨rfl, v, 0, h, l, by simp, hl.pre (List.prefix_append _ _), by omega, hl.ids⟩, List.prefix_append _ _, by simp⟩

theorem f33 {H : Hp} {v : Value} {l : List Int} (hl : SlU H v l) : Scal EE 33 [v] H (.bool (decide ((l.length : Int) > 1048576))) := by
  refine scal_ok rfl rfl k33 (by simp [c33]) rfl fun m hw => ?_
  simp only [go_sem, ↓reduceIte, Nat.reduceEqDiff, reduceCtorEq, Nat.reduceAdd, Nat.reduceLeDiff, Nat.reduceMul, c33, hl.len]

theorem Sl.intD {H : Hp} {v : Value} {l : List Int} (h : Sl (En eI) 1 H v l) {i : Nat} {a : Int} (hi : l[i]? = some a) : ∃ id p o, H[id]? = some o ∧ o[p]? = some (.int .i64 a) ∧
    ∀ (s : St) (x y : X), exv s.ρ x = some v → exv s.ρ y = some (.int .i64 i) → iadrK s 1 x y = some (.val (.pointer (some ⟨id, p, some o.length⟩)), s) := by
  obtain ⟨id, p, o, ho, hr, hp, hia⟩ := h.elem hi
  unfold En at hr
  exact ⟨id, p, o, ho, by simpa [eI] using getElem?_of_take hr (j := 0) (by omega), hia⟩
theorem sl_ints {H : Hp} (l : List Int) (hl : l.length ≤ 9223372036854775807) : Sl (En eI) 1 (H ++ [l.map (Value.int .i64)]) (.slice (some ⟨H.length, 0, some 1⟩) l.length l.length) l :=
  .inr ⟨H.length, 0, l.length, l.map (Value.int .i64), rfl, by simp, by simp, by simp, hl, fun i a hi => by
    unfold En eI
    refine List.ext_getElem? fun j => ?_
    rw [take_drop_get]
    by_cases hj : j < 1
    · have : j = 0 := by omega
      subst this
      rw [if_pos hj, List.getElem?_map, show 0 + i * 1 + 0 = i by omega, hi]
      rfl
    · rw [if_neg hj, List.getElem?_eq_none (by simp; omega)]⟩
/-- One of some numbers. -/
theorem f71 {m : Md} {H : Hp} {c v : Value} {id : Nat} {l : List Int} (hc : Cur H c id) (hw : m.wr id = true) (hl : Sl (En eI) 1 H v l) (h0 : 0 < l.length) (hid : id ∉ idsOf v) : Fun EE m 71 [c, v] H fun r H' => ∃ x ∈ l, r = .int .i64 x ∧ CS H H' c id := by
  refine fun_t rfl rfl k71 (by simp [c71]) fun m' hm => ?_
  have hw : m'.wr id = true := (hm id).trans hw
  have hroom := hl.room
  simp only [go_sem, ↓reduceIte, Nat.reduceEqDiff, reduceCtorEq, Nat.reduceAdd, Nat.reduceLeDiff, Nat.reduceMul, c71, hl.len]
  refine callD (f89 hc hw) rfl fun r H1 ⟨x, e, hx0, hx1, hx2, hs⟩ => ?_
  subst e
  obtain ⟨k, rfl⟩ : ∃ k : Nat, x = k := ⟨x.toNat, by omega⟩
  have hk : k < l.length := by have := hx1 (by omega); omega
  obtain ⟨id2, p, o, ho, hr, hia⟩ := (hl.cs hs hid).intD (List.getElem?_eq_getElem hk)
  simp only [go_sem, ↓reduceIte, Nat.reduceEqDiff, reduceCtorEq, Nat.reduceAdd, Nat.reduceLeDiff, Nat.reduceMul, hia, ho, hr]
  exact ⟨_, List.getElem_mem hk, rfl, hs.cut⟩

theorem own_geD {N : Nat} {v : Value} (h : OwnS N v) : ∀ j ∈ idsOf v, N ≤ j := fun j hj => by
  rcases h with rfl | ⟨id, e, ln, cap, rfl, hid⟩
  · simp [idsOf] at hj
  · simp [idsOf] at hj; omega

end Go.Proofs.Ytjepmnmakemfoaa.Ev

/- The types of the laws' parameters: bytes. -/
namespace Go.Proofs.Ytjepmnmakemfoaa.Ev
set_option linter.all false
open Go
set_option maxRecDepth 100000
theorem bU : Bld Try.prog 5 1 (fun _ (n : Int) vs => vs = [.int .u8 n]) (fun n => (Lit.int .u8 n).wf = true) := Bld.int Try.underlying5 (by kernel_rfl)
theorem aBytes : ArgB Try.prog 44 (fun M (l : List Int) v => SlU M v l) (fun l => ∀ x ∈ l, (Lit.int .u8 x).wf = true) :=
  have h := ArgB.slice (t := 44) (e := 5) Try.underlying44 (by kernel_rfl) (bU.conv (R' := fun _ (n : Int) vs => En eU n vs) (fun n => n) (fun _ _ _ h => h) (fun _ h => h) (fun _ h => h))
  ⟨h.mono, fun a b J M r => by
    obtain ⟨J', M', u, z, a1, a2, a3, a4, a5⟩ := h.arg a b J M r
    exact ⟨J', M', u, z, a1, a2, a3, a4, a5.2⟩⟩
end Go.Proofs.Ytjepmnmakemfoaa.Ev

/- A row more in a table: the reference's way. -/
namespace Go.Proofs.Ytjepmnmakemfoaa.Ev
set_option linter.all false
open Go
set_option maxRecDepth 4000

/-- The version that stands last for one. -/
def lastV (l : List Rw) (w : Int) : Int := l.foldl (fun n z => if z.1 = w then z.2.1 else n) 0
theorem lastV_succ {l : List Rw} {w : Int} {i : Nat} (h : i < l.length) : lastV (l.take (i + 1)) w = if l[i].1 = w then l[i].2.1 else lastV (l.take i) w := by
  unfold lastV
  rw [List.take_succ_eq_append_getElem h, List.foldl_append]
  rfl
theorem f68 {H : Hp} {v : Value} {l : List Rw} {w : Int} (hl : SlRw H v l) : Scal EE 68 [v, .int .i64 w] H (.int .i64 (lastV l w)) := by
  refine scal_ok rfl rfl k68 (by simp [c68]) rfl fun m hw => ?_
  have hroom := hl.room
  simp only [go_sem, ↓reduceIte, Nat.reduceEqDiff, reduceCtorEq, Nat.reduceAdd, Nat.reduceLeDiff, Nat.reduceMul, c68]
  refine go_for l.length (fun i s => s.H = H ∧ s.ρ 0 = .val v ∧ s.ρ 1 = .val (.int .i64 w) ∧ s.ρ 5 = .val (.int .i64 (lastV (l.take i) w)) ∧ s.ρ 6 = .val (.int .i64 i)) (fun s => s.H = H ∧ s.ρ 5 = .val (.int .i64 (lastV l w))) (by simp [upd, ini, lastV]) ?_ ?_
  · rintro i s hi ⟨hH, k0, k1, k5, k6⟩
    simp only [go_sem, ↓reduceIte, Nat.reduceEqDiff, reduceCtorEq, Nat.reduceAdd, Nat.reduceLeDiff, Nat.reduceMul, k0, k1, k5, k6, hl.len]
    refine brT.intro (fun q1 => ?_) (fun q1 => ?_) <;> simp only [go_sem, ↓reduceIte, Nat.reduceEqDiff, reduceCtorEq, Nat.reduceAdd, Nat.reduceLeDiff, Nat.reduceMul, k0, k1, k5, k6]
    · have hil : i < l.length := by have := of_decide_eq_true q1; omega
      obtain ⟨id2, p, o, ho, hr, hp, hia⟩ := hl.elem (List.getElem?_eq_getElem hil)
      unfold En at hr
      have g0 : o[p]? = some (.int .i64 l[i].1) := by simpa [eRw] using getElem?_of_take hr (j := 0) (by omega)
      have g1 : o[p + 1]? = some (.int .i64 l[i].2.1) := by simpa [eRw] using getElem?_of_take hr (j := 1) (by omega)
      simp only [go_sem, ↓reduceIte, Nat.reduceEqDiff, reduceCtorEq, Nat.reduceAdd, Nat.reduceLeDiff, Nat.reduceMul, k0, k1, k5, k6, hia, hH, ho, g0]
      refine brT.intro (fun q2 => ?_) (fun q2 => ?_) <;> simp only [go_sem, ↓reduceIte, Nat.reduceEqDiff, reduceCtorEq, Nat.reduceAdd, Nat.reduceLeDiff, Nat.reduceMul, k0, k1, k5, k6, hia, hH, ho, g1, wrap64 ((i : Int) + 1) (by omega) (by omega)]
      · exact ⟨hil, by rw [lastV_succ hil, if_pos (of_decide_eq_true q2)], by simp⟩
      · exact ⟨hil, by rw [lastV_succ hil, if_neg (of_decide_eq_false q2)], by simp⟩
    · have : i = l.length := by have := of_decide_eq_false q1; omega
      subst this
      exact ⟨hH, by rw [List.take_length]⟩
  · rintro s ⟨hH, k5⟩
    simp only [go_sem, ↓reduceIte, Nat.reduceEqDiff, reduceCtorEq, Nat.reduceAdd, Nat.reduceLeDiff, Nat.reduceMul, hH, k5]

/-- A row put in ahead of the first of a later one. -/
def insS (w n k : Int) (st : Bool × List Rw) (z : Rw) : Bool × List Rw := if st.1 = false ∧ z.1 > w then (true, st.2 ++ [(w, n, k)] ++ [z]) else (st.1, st.2 ++ [z])
def insF (w n k : Int) (l : List Rw) : Bool × List Rw := l.foldl (insS w n k) (false, [])
def insR (w n k : Int) (l : List Rw) : List Rw := if (insF w n k l).1 = true then (insF w n k l).2 else (insF w n k l).2 ++ [(w, n, k)]
theorem insF_succ {w n k : Int} {l : List Rw} {i : Nat} (h : i < l.length) : insF w n k (l.take (i + 1)) = insS w n k (insF w n k (l.take i)) l[i] := by
  unfold insF
  rw [List.take_succ_eq_append_getElem h, List.foldl_append]
  rfl
theorem insS_len (w n k : Int) (st : Bool × List Rw) (z : Rw) : (insS w n k st z).2.length + cond (insS w n k st z).1 0 1 = st.2.length + 1 + cond st.1 0 1 := by
  unfold insS
  split
  · rename_i h
    rw [h.1]
    simp
  · simp only [List.length_append, List.length_cons, List.length_nil]
theorem insF_len (w n k : Int) : ∀ (l : List Rw) (st : Bool × List Rw), (l.foldl (insS w n k) st).2.length + cond (l.foldl (insS w n k) st).1 0 1 = st.2.length + l.length + cond st.1 0 1
  | [], st => by simp
  | z :: l, st => by
    have h1 := insF_len w n k l (insS w n k st z)
    have h2 := insS_len w n k st z
    rw [List.foldl_cons, List.length_cons]
    omega
theorem insF_len2 (w n k : Int) (l : List Rw) : (insF w n k l).2.length ≤ l.length + 1 := by
  have h : (insF w n k l).2.length + cond (insF w n k l).1 0 1 = 0 + l.length + 1 := insF_len w n k l (false, [])
  omega
theorem insR_len (w n k : Int) (l : List Rw) : (insR w n k l).length = l.length + 1 := by
  have h : (insF w n k l).2.length + cond (insF w n k l).1 0 1 = 0 + l.length + 1 := insF_len w n k l (false, [])
  unfold insR
  cases hd : (insF w n k l).1 with
  | true =>
    rw [hd] at h
    rw [if_pos rfl]
    simp only [cond_true] at h
    omega
  | false =>
    rw [hd] at h
    rw [if_neg (by decide)]
    simp only [cond_false] at h
    simp only [List.length_append, List.length_cons, List.length_nil]
    omega
def addOk (l : List Rw) (w k : Int) : Bool := inB w 0 99 && (inB k 1 1000000 && (decide (l.length < 20) && (decide (lastV l w + 1 ≤ 1000) && !keyIn l k)))
noncomputable def addT (l : List Rw) (w k : Int) : List Rw × Bool := if tbOk l = true then (if addOk l w k = true then (insR w (lastV l w + 1) k l, true) else (l, false)) else ([], false)
theorem addT_len (l : List Rw) (w k : Int) : (addT l w k).1.length ≤ 20 := by
  unfold addT
  split
  · rename_i h
    have h1 := (tbOk_t.1 h).1
    split
    · rename_i h2
      rw [insR_len]
      simp only [addOk, Bool.and_eq_true, decide_eq_true_eq] at h2
      omega
    · exact h1
  · simp
theorem lastV_in {l : List Rw} (h : TbOk l) (w : Int) : 0 ≤ lastV l w ∧ lastV l w ≤ 1000 := by
  have : ∀ (l : List Rw) (n : Int), (∀ z ∈ l, rowOkB z = true) → 0 ≤ n ∧ n ≤ 1000 → 0 ≤ l.foldl (fun n z => if z.1 = w then z.2.1 else n) n ∧ l.foldl (fun n z => if z.1 = w then z.2.1 else n) n ≤ 1000 := by
    intro l
    induction l with
    | nil => intro n _ hn; exact hn
    | cons z l ih =>
      intro n hz hn
      rw [List.foldl_cons]
      refine ih _ (fun y hy => hz y (List.mem_cons_of_mem _ hy)) ?_
      have := hz z (by simp)
      simp only [rowOkB, Bool.and_eq_true, inB_t] at this
      split <;> omega
  exact this l 0 (fun z hz => tb_row h hz) (by omega)

theorem Sl.oneR2 {m : Md} {N : Nat} {H : Hp} {wp v : Value} {P l : List Rw} (z : Rw) (kp : SlRw H wp P) (h : SlRw H v l) (hd : ∀ j ∈ idsOf wp, j ∉ idsOf v) (ho : OwnS N v) (hN : N ≤ H.length) (hw : ∀ id, N ≤ id → m.wr id = true) (hb : l.length < 1048576) :
    ∃ v' H', (∀ (s : St) (x y : X), s.H = H → exv s.ρ x = some v → ex s.ρ y = .vs 1 (eRw z) → appK m s 3 24 x y = some (.val v', { s with H := H' })) ∧ SlRw H' wp P ∧ SlRw H' v' (l ++ [z]) ∧ OwnS N v' ∧
      (∀ j ∈ idsOf wp, j ∉ idsOf v') ∧ ∀ H0 : Hp, H0.length ≤ N → H0 <+: H → H0 <+: H' := by
  obtain ⟨v', H', e1, e2, e3, e4, e5, e6, e7⟩ := h.oneRw (m := m) z ho hN hw hb
  refine ⟨v', H', e1, kp.frame (fun _ _ _ h => h) (fun id off e len cap hv => ?_), e2, e3, fun j hj h => ?_, e7⟩
  · have hm : id ∈ idsOf wp := by subst hv; simp [idsOf]
    exact e4 id (kp.ids id hm) (hd id hm)
  · rcases e6 j h with h2 | h2
    · exact hd j hj h2
    · have := kp.ids j hj
      omega
def AddR (H : Hp) (l : List Rw) (w k : Int) (r : Value) (H' : Hp) : Prop := ∃ u, r = .tuple #[u, .bool (addT l w k).2] ∧ FreshS eRw 3 H u H' (addT l w k).1
theorem f36 {m : Md} {H : Hp} {v : Value} {l : List Rw} {w k : Int} (hl : SlRw H v l) (hw : Wr m H) : Fun EE m 36 [v, .int .i64 w, .int .i64 k] H fun r H' => AddR H l w k r H' := by
  refine fun_f rfl rfl k36 (by simp [c36]) ?_
  have hroom := hl.room
  have a16 := fun {m draw t d ts Q} => callT_at (m := m) (draw := draw) (s := t) (d := d) (ts := ts) (Q := Q) (f16 hl)
  simp only [go_sem, ↓reduceIte, Nat.reduceEqDiff, reduceCtorEq, Nat.reduceAdd, Nat.reduceLeDiff, Nat.reduceMul, c36, a16, hw]
  unfold AddR addT
  cases hB : tbOk l with
  | false =>
    simp only [go_sem, ↓reduceIte, Nat.reduceEqDiff, reduceCtorEq, Nat.reduceAdd, Nat.reduceLeDiff, Nat.reduceMul, fillL]
    exact ⟨_, rfl, FreshS.new (List.prefix_refl _)⟩
  | true =>
  rw [if_pos rfl]
  have hok := tbOk_t.1 hB
  have h20 := hok.1
  have hv := lastV_in hok w
  have p0 : H <+: H ++ [[]] := List.prefix_append _ _
  have s0 : SlRw (H ++ [[]]) (.slice (some ⟨H.length, 0, some 3⟩) 0 (0 * 3)) [] := own_newR
  have o0 : OwnS H.length (.slice (some ⟨H.length, 0, some 3⟩) 0 (0 * 3)) := .inr ⟨_, _, _, _, rfl, Nat.le_refl _⟩
  generalize hwv : Value.slice (some ⟨H.length, 0, some 3⟩) 0 (0 * 3) = wv0 at s0 o0
  have hsc : ∀ z : Rw, (eRw z).all scal = true := fun z => rfl
  obtain ⟨v2, H2, d1, d2, d3, d4, d5, d6, d7⟩ := s0.join (m := m) (N := H.length) (bytes := 24) (hl.pre p0) hsc (by omega) o0 p0.length_le hw (by unfold Ev.room; simp; omega) (by unfold Ev.room; simp; omega)
  have p2 : H <+: H2 := d7 H (Nat.le_refl _) p0
  have d2 : SlRw H2 v2 l := by simpa using d2
  have l2 := hl.pre p2
  have w2 := hw.pre p2
  have a68 := fun {m draw t d ts Q} => callT_at (m := m) (draw := draw) (s := t) (d := d) (ts := ts) (Q := Q) (f68 (w := w) l2)
  have a52 := fun {a b c : Int} {m draw t d ts Q} => callT_at (m := m) (draw := draw) (s := t) (d := d) (ts := ts) (Q := Q) (f52i (H := H2) (a := a) (b := b) (c := c))
  have n1 : IntKind.i64.wrap (lastV l w + 1) = lastV l w + 1 := wrap64 _ (by omega) (by omega)
  simp only [go_sem, ↓reduceIte, Nat.reduceEqDiff, reduceCtorEq, Nat.reduceAdd, Nat.reduceLeDiff, Nat.reduceMul, fillL, hwv]
  rw [d1]
  rotate_left
  · rfl
  · rfl
  · rfl
  have no : addOk l w k = false → ∃ u, Value.tuple #[v2, .bool false] = .tuple #[u, .bool (if addOk l w k = true then (insR w (lastV l w + 1) k l, true) else (l, false)).2] ∧ FreshS eRw 3 H u H2 (if addOk l w k = true then (insR w (lastV l w + 1) k l, true) else (l, false)).1 := fun h => by
    rw [if_neg (by rw [h]; decide)]
    exact ⟨_, rfl, p2, d2, d3⟩
  simp only [go_sem, ↓reduceIte, Nat.reduceEqDiff, reduceCtorEq, Nat.reduceAdd, Nat.reduceLeDiff, Nat.reduceMul, a68, w2, n1, a52]
  cases h1 : inB w 0 99 <;> simp only [go_sem, ↓reduceIte, Nat.reduceEqDiff, reduceCtorEq, Nat.reduceAdd, Nat.reduceLeDiff, Nat.reduceMul, h1, a52, w2]
  · exact no (by simp [addOk, h1])
  cases h2 : inB k 1 1000000 <;> simp only [go_sem, ↓reduceIte, Nat.reduceEqDiff, reduceCtorEq, Nat.reduceAdd, Nat.reduceLeDiff, Nat.reduceMul, h2, a52, w2, l2.len]
  · exact no (by simp [addOk, h2])
  cases h3 : decide ((l.length : Int) ≥ 20) <;> simp only [go_sem, ↓reduceIte, Nat.reduceEqDiff, reduceCtorEq, Nat.reduceAdd, Nat.reduceLeDiff, Nat.reduceMul, h3]
  rotate_left
  · exact no (by have := of_decide_eq_true h3; simp [addOk]; intros; omega)
  have h3' : l.length < 20 := by have := of_decide_eq_false h3; omega
  cases h4 : decide (lastV l w + 1 > 1000) <;> simp only [go_sem, ↓reduceIte, Nat.reduceEqDiff, reduceCtorEq, Nat.reduceAdd, Nat.reduceLeDiff, Nat.reduceMul, h4]
  rotate_left
  · exact no (by have := of_decide_eq_true h4; simp [addOk]; intros; omega)
  have h4' : lastV l w + 1 ≤ 1000 := by have := of_decide_eq_false h4; omega
  generalize hn : lastV l w + 1 = n at *
  have s3 : SlRw (H2 ++ [[]]) (.slice (some ⟨H2.length, 0, some 3⟩) 0 (0 * 3)) [] := own_newR
  have o3 : OwnS H.length (.slice (some ⟨H2.length, 0, some 3⟩) 0 (0 * 3)) := .inr ⟨_, _, _, _, rfl, p2.length_le⟩
  have p3 : H <+: H2 ++ [[]] := p2.trans (List.prefix_append _ _)
  have dd : ∀ j ∈ idsOf v2, j ∉ idsOf (.slice (some ⟨H2.length, 0, some 3⟩) 0 (0 * 3)) := fun j hj h => by
    have := d2.ids j hj
    simp [idsOf] at h
    omega
  generalize (Value.slice (some ⟨H2.length, 0, some 3⟩) 0 (0 * 3)) = wv3 at s3 o3 dd ⊢
  have d2' := d2.pre (List.prefix_append H2 [[]])
  refine go_for l.length (fun i s => H <+: s.H ∧ s.ρ 0 = .val v ∧ s.ρ 1 = .val (.int .i64 w) ∧ s.ρ 2 = .val (.int .i64 k) ∧ s.ρ 8 = .val v2 ∧ s.ρ 9 = .val (.int .i64 n) ∧ s.ρ 11 = .val (.bool (insF w n k (l.take i)).1) ∧ s.ρ 12 = .val (.int .i64 i) ∧ SlRw s.H v2 l ∧ k ∉ keysR (l.take i) ∧ ∃ wv, s.ρ 10 = .val wv ∧ SlRw s.H wv (insF w n k (l.take i)).2 ∧ OwnS H.length wv ∧ ∀ j ∈ idsOf v2, j ∉ idsOf wv)
    (fun s => H <+: s.H ∧ s.ρ 1 = .val (.int .i64 w) ∧ s.ρ 2 = .val (.int .i64 k) ∧ s.ρ 9 = .val (.int .i64 n) ∧ s.ρ 11 = .val (.bool (insF w n k l).1) ∧ k ∉ keysR l ∧ ∃ wv, s.ρ 10 = .val wv ∧ SlRw s.H wv (insF w n k l).2 ∧ OwnS H.length wv) ?_ ?_ ?_
  · exact ⟨p3, by simp [upd, ini], by simp [upd, ini], by simp [upd, ini], by simp [upd], by simp [upd], by simp [upd, insF], by simp [upd], d2', by simp [keysR], wv3, by simp [upd], by simpa [insF] using s3, o3, dd⟩
  · rintro i s hi ⟨kH, k0, k1, k2, k8, k9, k11, k12, kv, kn, wv, k10, ks, ko, kd⟩
    have kl := hl.pre kH
    simp only [go_sem, ↓reduceIte, Nat.reduceEqDiff, reduceCtorEq, Nat.reduceAdd, Nat.reduceLeDiff, Nat.reduceMul, k0, k1, k2, k8, k9, k10, k11, k12, kl.len]
    refine brT.intro (fun q1 => ?_) (fun q1 => ?_) <;> simp only [go_sem, ↓reduceIte, Nat.reduceEqDiff, reduceCtorEq, Nat.reduceAdd, Nat.reduceLeDiff, Nat.reduceMul, k0, k1, k2, k8, k9, k10, k11, k12]
    rotate_left
    · have : i = l.length := by have := of_decide_eq_false q1; omega
      subst this
      rw [List.take_length] at ks kn
      exact ⟨kH, by rw [List.take_length], kn, wv, rfl, ks, ko⟩
    have hil : i < l.length := by have := of_decide_eq_true q1; omega
    obtain ⟨id, p, o, ho, hr, hpp, hia⟩ := kl.elem (List.getElem?_eq_getElem hil)
    unfold En at hr
    have g0 : o[p]? = some (.int .i64 l[i].1) := by simpa [eRw] using getElem?_of_take hr (j := 0) (by omega)
    have g2 : o[p + 2]? = some (.int .i64 l[i].2.2) := by simpa [eRw] using getElem?_of_take hr (j := 2) (by omega)
    have w1 := wrap64 ((i : Int) + 1) (by omega) (by omega)
    have hlen := insF_len2 w n k (l.take i)
    rw [List.length_take] at hlen
    have hs := insF_succ (w := w) (n := n) (k := k) hil
    simp only [go_sem, ↓reduceIte, Nat.reduceEqDiff, reduceCtorEq, Nat.reduceAdd, Nat.reduceLeDiff, Nat.reduceMul, k0, k1, k2, k8, k9, k10, k11, k12, hia, ho, g0, g2]
    refine brT.intro (fun q2 => ?_) (fun q2 => ?_) <;> simp only [go_sem, ↓reduceIte, Nat.reduceEqDiff, reduceCtorEq, Nat.reduceAdd, Nat.reduceLeDiff, Nat.reduceMul, k0, k1, k2, k8, k9, k10, k11, k12, hia, ho, g0, g2]
    · have hin : k ∈ keysR l := by
        rw [← of_decide_eq_true q2]
        exact List.mem_map.2 ⟨l[i], List.getElem_mem hil, rfl⟩
      have hadd : addOk l w k = false := by simp [addOk, keyIn, hin]
      rw [if_neg (by rw [hadd]; decide)]
      exact ⟨_, rfl, kH, kv, d3⟩
    have kn2 := keys_succ hil kn (of_decide_eq_false q2)
    cases hd : (insF w n k (l.take i)).1
    · rw [hd] at k11
      cases h5 : decide (l[i].1 > w)
      · have e : insF w n k (l.take (i + 1)) = (false, (insF w n k (l.take i)).2 ++ [l[i]]) := by
          rw [hs]
          unfold insS
          rw [if_neg (fun h => of_decide_eq_false h5 h.2), hd]
        obtain ⟨v5, H5, e1, e2, e3, e4, e5, e6⟩ := Sl.oneR2 (m := m) l[i] kv ks kd ko kH.length_le hw (by omega)
        have hr' : (o.drop p).take 3 = eRw l[i] := hr
        unfold eRw at hr' e1
        simp only [go_sem, ↓reduceIte, Nat.reduceEqDiff, reduceCtorEq, Nat.reduceAdd, Nat.reduceLeDiff, Nat.reduceMul, k0, k1, k2, k8, k9, k10, k11, k12, hia, ho, g0, g2, h5, hr', hpp]
        rw [e1]
        rotate_left
        · rfl
        · rfl
        · rfl
        simp only [go_sem, ↓reduceIte, Nat.reduceEqDiff, reduceCtorEq, Nat.reduceAdd, Nat.reduceLeDiff, Nat.reduceMul, k0, k1, k2, k8, k9, k10, k11, k12, w1]
        exact ⟨hil, e6 H (Nat.le_refl _) kH, by rw [e], by simp, e2, kn2, v5, rfl, by rw [e]; exact e3, e4, e5⟩
      · have e : insF w n k (l.take (i + 1)) = (true, (insF w n k (l.take i)).2 ++ [(w, n, k)] ++ [l[i]]) := by
          rw [hs]
          unfold insS
          rw [if_pos ⟨hd, of_decide_eq_true h5⟩]
        obtain ⟨v4, H4, c1, c2, c3, c4, c5, c6⟩ := Sl.oneR2 (m := m) (w, n, k) kv ks kd ko kH.length_le hw (by omega)
        have q4 := c6 H (Nat.le_refl _) kH
        obtain ⟨v5, H5, e1, e2, e3, e4, e5, e6⟩ := Sl.oneR2 (m := m) l[i] c2 c3 c5 c4 q4.length_le hw (by simp; omega)
        obtain ⟨id', p', o', ho', hr', hpp', hia'⟩ := (hl.pre q4).elem (List.getElem?_eq_getElem hil)
        have hr' : (o'.drop p').take 3 = eRw l[i] := hr'
        unfold eRw at c1 e1 hr'
        simp only [go_sem, ↓reduceIte, Nat.reduceEqDiff, reduceCtorEq, Nat.reduceAdd, Nat.reduceLeDiff, Nat.reduceMul, k0, k1, k2, k8, k9, k10, k11, k12, hia, ho, g0, g2, h5]
        rw [c1]
        rotate_left
        · rfl
        · rfl
        · rfl
        simp only [go_sem, ↓reduceIte, Nat.reduceEqDiff, reduceCtorEq, Nat.reduceAdd, Nat.reduceLeDiff, Nat.reduceMul, k0, k1, k2, k8, k9, k10, k11, k12, hia', ho', hr', hpp']
        rw [e1]
        rotate_left
        · rfl
        · rfl
        · rfl
        simp only [go_sem, ↓reduceIte, Nat.reduceEqDiff, reduceCtorEq, Nat.reduceAdd, Nat.reduceLeDiff, Nat.reduceMul, k0, k1, k2, k8, k9, k10, k11, k12, w1]
        exact ⟨hil, e6 H (Nat.le_refl _) q4, by rw [e], by simp, e2, kn2, v5, rfl, by rw [e]; exact e3, e4, e5⟩
    · rw [hd] at k11
      have e : insF w n k (l.take (i + 1)) = (true, (insF w n k (l.take i)).2 ++ [l[i]]) := by
        rw [hs]
        unfold insS
        rw [if_neg (fun h => by rw [hd] at h; exact absurd h.1 (by decide)), hd]
      obtain ⟨v5, H5, e1, e2, e3, e4, e5, e6⟩ := Sl.oneR2 (m := m) l[i] kv ks kd ko kH.length_le hw (by omega)
      have hr' : (o.drop p).take 3 = eRw l[i] := hr
      unfold eRw at hr' e1
      simp only [go_sem, ↓reduceIte, Nat.reduceEqDiff, reduceCtorEq, Nat.reduceAdd, Nat.reduceLeDiff, Nat.reduceMul, k0, k1, k2, k8, k9, k10, k11, k12, hia, ho, g0, g2, hr', hpp]
      rw [e1]
      rotate_left
      · rfl
      · rfl
      · rfl
      simp only [go_sem, ↓reduceIte, Nat.reduceEqDiff, reduceCtorEq, Nat.reduceAdd, Nat.reduceLeDiff, Nat.reduceMul, k0, k1, k2, k8, k9, k10, k11, k12, w1]
      exact ⟨hil, e6 H (Nat.le_refl _) kH, by rw [e], by simp, e2, kn2, v5, rfl, by rw [e]; exact e3, e4, e5⟩
  · rintro s ⟨kH, k1, k2, k9, k11, kn, wv, k10, ks, ko⟩
    have hadd : addOk l w k = true := by simp [addOk, keyIn, kn, h1, h2, h3', hn, h4']
    rw [if_pos hadd]
    have hlen := insF_len2 w n k l
    cases hd : (insF w n k l).1
    · rw [hd] at k11
      obtain ⟨v4, H4, c1, c2, c3, c4, c5, c6, c7⟩ := ks.oneRw (m := m) (w, n, k) ko kH.length_le hw (by omega)
      unfold eRw at c1
      simp only [go_sem, ↓reduceIte, Nat.reduceEqDiff, reduceCtorEq, Nat.reduceAdd, Nat.reduceLeDiff, Nat.reduceMul, k1, k2, k9, k10, k11]
      rw [c1]
      rotate_left
      · rfl
      · rfl
      · rfl
      simp only [go_sem, ↓reduceIte, Nat.reduceEqDiff, reduceCtorEq, Nat.reduceAdd, Nat.reduceLeDiff, Nat.reduceMul]
      refine ⟨_, rfl, c7 H (Nat.le_refl _) kH, ?_, c3⟩
      have e : insR w n k l = (insF w n k l).2 ++ [(w, n, k)] := by unfold insR; rw [if_neg (by rw [hd]; decide)]
      rw [e]
      exact c2
    · rw [hd] at k11
      simp only [go_sem, ↓reduceIte, Nat.reduceEqDiff, reduceCtorEq, Nat.reduceAdd, Nat.reduceLeDiff, Nat.reduceMul, k1, k2, k9, k10, k11]
      refine ⟨_, rfl, kH, ?_, ko⟩
      have e : insR w n k l = (insF w n k l).2 := by unfold insR; rw [if_pos hd]
      rw [e]
      exact ks
end Go.Proofs.Ytjepmnmakemfoaa.Ev

/- Draws of tables; the law TabText. -/
namespace Go.Proofs.Ytjepmnmakemfoaa.Ev
set_option linter.all false
open Go
set_option maxRecDepth 4000

theorem f27 {m : Md} {H : Hp} {v : Value} {l : List Rw} {most : Int} (hl : SlRw H v l) (hle : l.length ≤ 1000) (hw : Wr m H) : Fun EE m 27 [v, .int .i64 most] H fun r H' => ∃ l' : List Rw, FreshS eRw 3 H r H' l' ∧ l'.length ≤ l.length := by
  refine fun_f rfl rfl k27 (by simp [c27]) ?_
  have hroom := hl.room
  have p0 : H <+: H ++ [[]] := List.prefix_append _ _
  have s0 : SlRw (H ++ [[]]) (.slice (some ⟨H.length, 0, some 3⟩) 0 (0 * 3)) [] := own_newR
  have o0 : OwnS H.length (.slice (some ⟨H.length, 0, some 3⟩) 0 (0 * 3)) := .inr ⟨_, _, _, _, rfl, Nat.le_refl _⟩
  generalize hwv : Value.slice (some ⟨H.length, 0, some 3⟩) 0 (0 * 3) = wv0 at s0 o0
  simp only [go_sem, ↓reduceIte, Nat.reduceEqDiff, reduceCtorEq, Nat.reduceAdd, Nat.reduceLeDiff, Nat.reduceMul, c27, fillL, hwv]
  refine go_for l.length (fun i s => H <+: s.H ∧ s.ρ 0 = .val v ∧ s.ρ 1 = .val (.int .i64 most) ∧ s.ρ 6 = .val (.int .i64 i) ∧ ∃ wv l', s.ρ 5 = .val wv ∧ SlRw s.H wv l' ∧ OwnS H.length wv ∧ l'.length ≤ i)
    (fun s => H <+: s.H ∧ ∃ wv l', s.ρ 5 = .val wv ∧ SlRw s.H wv l' ∧ OwnS H.length wv ∧ l'.length ≤ l.length) ?_ ?_ ?_
  · exact ⟨p0, by simp [upd, ini], by simp [upd, ini], by simp [upd], wv0, [], by simp [upd], s0, o0, by simp⟩
  · rintro i s hi ⟨kH, k0, k1, k6, wv, l', k5, ks, ko, kl⟩
    have kv := hl.pre kH
    have a16 := fun {m draw t d ts Q} => callT_at (m := m) (draw := draw) (s := t) (d := d) (ts := ts) (Q := Q) (f16 kv)
    simp only [go_sem, ↓reduceIte, Nat.reduceEqDiff, reduceCtorEq, Nat.reduceAdd, Nat.reduceLeDiff, Nat.reduceMul, k0, k1, k5, k6, kv.len]
    cases q1 : decide ((i : Int) < (l.length : Int)) <;> simp only [go_sem, ↓reduceIte, Nat.reduceEqDiff, reduceCtorEq, Nat.reduceAdd, Nat.reduceLeDiff, Nat.reduceMul, k0, k1, k5, k6, q1]
    · exact ⟨kH, wv, l', rfl, ks, ko, by omega⟩
    have hil : i < l.length := by have := of_decide_eq_true q1; omega
    simp only [go_sem, ↓reduceIte, Nat.reduceEqDiff, reduceCtorEq, Nat.reduceAdd, Nat.reduceLeDiff, Nat.reduceMul, k0, k1, k5, k6, a16, hw.pre kH]
    cases q2 : tbOk l <;> simp only [go_sem, ↓reduceIte, Nat.reduceEqDiff, reduceCtorEq, Nat.reduceAdd, Nat.reduceLeDiff, Nat.reduceMul, k0, k1, k5, k6, q2]
    · exact ⟨kH, wv, l', rfl, ks, ko, by omega⟩
    have w1 := wrap64 ((i : Int) + 1) (by omega) (by omega)
    simp only [go_sem, ↓reduceIte, Nat.reduceEqDiff, reduceCtorEq, Nat.reduceAdd, Nat.reduceLeDiff, Nat.reduceMul, k0, k1, k5, k6, w1]
    refine go_for (l.length - (i + 1)) (fun j t => t.H = s.H ∧ t.ρ 0 = .val v ∧ t.ρ 1 = .val (.int .i64 most) ∧ t.ρ 5 = .val wv ∧ t.ρ 6 = .val (.int .i64 i) ∧ (∃ n : Int, t.ρ 7 = .val (.int .i64 n)) ∧ t.ρ 8 = .val (.int .i64 ((i + 1 + j : Nat) : Int)))
      (fun t => t.H = s.H ∧ t.ρ 0 = .val v ∧ t.ρ 1 = .val (.int .i64 most) ∧ t.ρ 5 = .val wv ∧ t.ρ 6 = .val (.int .i64 i) ∧ ∃ n : Int, t.ρ 7 = .val (.int .i64 n)) ?_ ?_ ?_
    · exact ⟨rfl, by simp [upd, k0], by simp [upd, k1], by simp [upd, k5], by simp [upd, k6], ⟨0, by simp [upd]⟩, by simp [upd]⟩
    · rintro j t hj ⟨tH, t0, t1, t5, t6, ⟨n, t7⟩, t8⟩
      simp only [go_sem, ↓reduceIte, Nat.reduceEqDiff, reduceCtorEq, Nat.reduceAdd, Nat.reduceLeDiff, Nat.reduceMul, t0, t1, t5, t6, t7, t8, tH, kv.len]
      refine brT.intro (fun q3 => ?_) (fun q3 => ?_) <;> simp only [go_sem, ↓reduceIte, Nat.reduceEqDiff, reduceCtorEq, Nat.reduceAdd, Nat.reduceLeDiff, Nat.reduceMul, t0, t1, t5, t6, t7, t8]
      · have hjl : i + 1 + j < l.length := by have := of_decide_eq_true q3; omega
        obtain ⟨id, p, o, ho, hr, hpp, hia⟩ := kv.elem (List.getElem?_eq_getElem hil)
        unfold En at hr
        have g0 : o[p]? = some (.int .i64 l[i].1) := by simpa [eRw] using getElem?_of_take hr (j := 0) (by omega)
        obtain ⟨id', p', o', ho', hr', hpp', hia'⟩ := kv.elem (List.getElem?_eq_getElem hjl)
        unfold En at hr'
        have g0' : o'[p']? = some (.int .i64 l[i + 1 + j].1) := by simpa [eRw] using getElem?_of_take hr' (j := 0) (by omega)
        refine go_draw ?_
        simp only [go_sem, ↓reduceIte, Nat.reduceEqDiff, reduceCtorEq, Nat.reduceAdd, Nat.reduceLeDiff, Nat.reduceMul, t0, t1, t5, t6, t7, t8, hia, tH, ho, g0, hia', ho', g0']
        have w2 := wrap64 (((i + 1 + j : Nat) : Int) + 1) (by omega) (by omega)
        refine ⟨by rfl, ?_⟩
        refine brT.intro (fun q4 => ?_) (fun q4 => ?_) <;> simp only [go_sem, ↓reduceIte, Nat.reduceEqDiff, reduceCtorEq, Nat.reduceAdd, Nat.reduceLeDiff, Nat.reduceMul, t0, t1, t5, t6, t7, t8, w2]
        · exact ⟨by omega, ⟨_, rfl⟩, by congr 2⟩
        · exact ⟨by omega, ⟨_, rfl⟩, by congr 2⟩
      · exact ⟨_, rfl⟩
    · rintro t ⟨tH, t0, t1, t5, t6, n, t7⟩
      simp only [go_sem, ↓reduceIte, Nat.reduceEqDiff, reduceCtorEq, Nat.reduceAdd, Nat.reduceLeDiff, Nat.reduceMul, t0, t1, t5, t6, t7]
      refine brT.intro (fun q5 => ?_) (fun q5 => ?_) <;> simp only [go_sem, ↓reduceIte, Nat.reduceEqDiff, reduceCtorEq, Nat.reduceAdd, Nat.reduceLeDiff, Nat.reduceMul, t0, t1, t5, t6, t7, w1]
      · obtain ⟨id, p, o, ho, hr, hpp, hia⟩ := kv.elem (List.getElem?_eq_getElem hil)
        have hr : (o.drop p).take 3 = eRw l[i] := hr
        obtain ⟨v5, H5, e1, e2, e3, e4, e5, e6, e7⟩ := ks.oneRw (m := m) l[i] ko kH.length_le hw (by omega)
        unfold eRw at hr e1
        simp only [go_sem, ↓reduceIte, Nat.reduceEqDiff, reduceCtorEq, Nat.reduceAdd, Nat.reduceLeDiff, Nat.reduceMul, t0, t1, t5, t6, t7, hia, tH, ho, hr, hpp]
        rw [e1]
        rotate_left
        · rfl
        · rfl
        · rfl
        simp only [go_sem, ↓reduceIte, Nat.reduceEqDiff, reduceCtorEq, Nat.reduceAdd, Nat.reduceLeDiff, Nat.reduceMul, t0, t1, t5, t6, t7, w1]
        exact ⟨hil, e7 H (Nat.le_refl _) kH, by simp, v5, _, rfl, e2, e3, by simp; omega⟩
      · exact ⟨hil, by rw [tH]; exact kH, by simp, wv, l', rfl, by rw [tH]; exact ks, ko, by omega⟩
  · rintro s ⟨kH, wv, l', k5, ks, ko, kl⟩
    simp only [go_sem, ↓reduceIte, Nat.reduceEqDiff, reduceCtorEq, Nat.reduceAdd, Nat.reduceLeDiff, Nat.reduceMul, k5]
    exact ⟨l', ⟨kH, ks, ko⟩, kl⟩

def TdR (H : Hp) (c : Value) (id : Nat) (r : Value) (H' : Hp) : Prop := ∃ l : List Rw, SlRw H' r l ∧ OwnS H.length r ∧ CX H H' c id ∧ l.length ≤ 20
theorem f65 {m : Md} {H : Hp} {c : Value} {id : Nat} (hc : Cur H c id) (hw0 : Wr m H) (hw : m.wr id = true) : Fun EE m 65 [c] H fun r H' => TdR H c id r H' := by
  refine fun_f rfl rfl k65 (by simp [c65]) ?_
  have hidl := hc.lt
  have p0 : H <+: H ++ [[]] := List.prefix_append _ _
  have own0 : SlRw (H ++ [[]]) (.slice (some ⟨H.length, 0, some 3⟩) 0 (0 * 3)) [] := own_newR
  simp only [go_sem, ↓reduceIte, Nat.reduceEqDiff, reduceCtorEq, Nat.reduceAdd, Nat.reduceLeDiff, Nat.reduceMul, c65, fillL]
  refine callD (f89 (hc.pre p0) hw) rfl fun r H2 ⟨k0, e, hk0, hk1, _, cs2⟩ => ?_
  subst e
  obtain ⟨k, rfl⟩ : ∃ k : Nat, k0 = k := ⟨k0.toNat, by omega⟩
  have hk := hk1 (by omega)
  have own2 : SlRw H2 (.slice (some ⟨H.length, 0, some 3⟩) 0 (0 * 3)) [] := own0.cs cs2 (by simp [idsOf]; omega)
  have cxA : CX H H2 c id := (CX.ofPre hc p0).trans cs2.cx
  simp only [go_sem, ↓reduceIte, Nat.reduceEqDiff, reduceCtorEq, Nat.reduceAdd, Nat.reduceLeDiff, Nat.reduceMul]
  refine go_loop (fun n t => t.ρ 0 = .val c ∧ (∃ w : Int, t.ρ 4 = .val (.int .i64 w)) ∧ t.ρ 5 = .val (.int .i64 n) ∧ n ≤ 12 ∧ CX H t.H c id ∧ ∃ wv l, t.ρ 3 = .val wv ∧ SlRw t.H wv l ∧ OwnS H.length wv ∧ l.length ≤ 20)
    (fun t => t.ρ 0 = .val c ∧ CX H t.H c id ∧ ∃ wv l, t.ρ 3 = .val wv ∧ SlRw t.H wv l ∧ OwnS H.length wv ∧ l.length ≤ 20) k ?_ ?_ ?_
  · exact ⟨by simp [upd, ini], ⟨5, by simp [upd]⟩, by simp [upd], by omega, cxA, _, [], by simp [upd], own2, .inr ⟨_, _, _, _, rfl, Nat.le_refl _⟩, by simp⟩
  · rintro n t ⟨k0, ⟨w, k4⟩, k5, kn, kc, wv, l, k3, ks, ko, kl⟩
    simp only [go_sem, ↓reduceIte, Nat.reduceEqDiff, reduceCtorEq, Nat.reduceAdd, Nat.reduceLeDiff, Nat.reduceMul, k0, k3, k4, k5]
    refine brT.intro (fun q => ?_) (fun q => ?_) <;> simp only [go_sem, ↓reduceIte, Nat.reduceEqDiff, reduceCtorEq, Nat.reduceAdd, Nat.reduceLeDiff, Nat.reduceMul, k0, k3, k4, k5]
    rotate_left
    · exact ⟨kc, wv, l, rfl, ks, ko, by omega⟩
    have hn : 0 < n := by have := of_decide_eq_true q; omega
    refine callD (f89 kc.1 hw) rfl fun r H3 ⟨x3, e, _, _, _, cs3⟩ => ?_
    subst e
    have s3 : SlRw H3 wv l := ks.cs cs3 (fun h => by have := own_geD ko id h; omega)
    have kc3 := kc.trans cs3.cx
    simp only [go_sem, ↓reduceIte, Nat.reduceEqDiff, reduceCtorEq, Nat.reduceAdd, Nat.reduceLeDiff, Nat.reduceMul, k0, k3, k4, k5]
    refine callT_to (fun m' h => f36 s3 h) rfl (fun j hj => hw0 j (by have := kc3.2.2; omega)) fun r H4 ⟨u, e, p4, s4, o4⟩ => ?_
    subst e
    have kc4 := kc3.trans (CX.ofPre kc3.1 p4)
    have hl4 := addT_len l x3 w
    simp only [go_sem, ↓reduceIte, Nat.reduceEqDiff, reduceCtorEq, Nat.reduceAdd, Nat.reduceLeDiff, Nat.reduceMul, k0, k3, k4, k5, List.getElem?_toArray, ofV]
    refine callD (f89 kc4.1 hw) rfl fun r H5 ⟨x5, e, _, _, _, cs5⟩ => ?_
    subst e
    have o4' : OwnS H.length u := o4.mono kc3.2.2
    have s5 := s4.cs cs5 (fun h => by have := own_geD o4' id h; omega)
    simp only [go_sem, ↓reduceIte, Nat.reduceEqDiff, reduceCtorEq, Nat.reduceAdd, Nat.reduceLeDiff, Nat.reduceMul, k0, k3, k4, k5, wrap64 ((n : Int) - 1) (by omega) (by omega)]
    exact ⟨n - 1, by omega, ⟨_, rfl⟩, by congr 2; omega, by omega, kc4.trans cs5.cx, u, _, rfl, s5, o4', hl4⟩
  · rintro t ⟨k0, kc, wv, l, k3, ks, ko, kl⟩
    simp only [go_sem, ↓reduceIte, Nat.reduceEqDiff, reduceCtorEq, Nat.reduceAdd, Nat.reduceLeDiff, Nat.reduceMul, k0, k3]
    refine callD (f66 kc.1 hw) rfl fun r H3 ⟨b3, e, cs3⟩ => ?_
    subst e
    have kc3 := kc.trans cs3.cx
    have s3 : SlRw H3 wv l := ks.cs cs3 (fun h => by have := own_geD ko id h; omega)
    simp only [go_sem, ↓reduceIte, Nat.reduceEqDiff, reduceCtorEq, Nat.reduceAdd, Nat.reduceLeDiff, Nat.reduceMul, k0, k3]
    refine brT.intro (fun q1 => ?_) (fun q1 => ?_)
    rotate_left
    obtain ⟨H5, u, lu, e1, e2, s5, o5, c5, l5⟩ : ∃ (H5 : Hp) (u : Value) (lu : List Rw), H5 = H3 ∧ u = wv ∧ SlRw H5 u lu ∧ OwnS H.length u ∧ CX H H5 c id ∧ lu.length ≤ 20 := ⟨H3, wv, l, rfl, rfl, s3, ko, kc3, kl⟩
    subst e1 e2
    simp only [go_sem, ↓reduceIte, Nat.reduceEqDiff, reduceCtorEq, Nat.reduceAdd, Nat.reduceLeDiff, Nat.reduceMul, k0, k3, s5.len]
    rotate_left
    simp only [go_sem, ↓reduceIte, Nat.reduceEqDiff, reduceCtorEq, Nat.reduceAdd, Nat.reduceLeDiff, Nat.reduceMul, k0, k3]
    refine callD (f89 kc3.1 hw) rfl fun r H4 ⟨x4, e, _, _, _, cs4⟩ => ?_
    subst e
    have kc4 := kc3.trans cs4.cx
    have s4 : SlRw H4 wv l := s3.cs cs4 (fun h => by have := own_geD ko id h; omega)
    simp only [go_sem, ↓reduceIte, Nat.reduceEqDiff, reduceCtorEq, Nat.reduceAdd, Nat.reduceLeDiff, Nat.reduceMul, k0, k3]
    refine callT_to (fun m' h => f27 s4 (by omega) h) rfl (fun j hj => hw0 j (by have := kc4.2.2; omega)) fun u H5 ⟨lu, ⟨p5, s5, o5⟩, l5⟩ => ?_
    have c5 := kc4.trans (CX.ofPre kc4.1 p5)
    have o5 := o5.mono kc4.2.2
    have l5 : lu.length ≤ 20 := by omega
    simp only [go_sem, ↓reduceIte, Nat.reduceEqDiff, reduceCtorEq, Nat.reduceAdd, Nat.reduceLeDiff, Nat.reduceMul, k0, k3, s5.len]
    all_goals (
      clear s3 ks ko kc kl kc3
      have done : TdR H c id u H5 := ⟨lu, s5, o5, c5, l5⟩
      cases q : decide ((lu.length : Int) > 0) <;> simp only [go_sem, ↓reduceIte, Nat.reduceEqDiff, reduceCtorEq, Nat.reduceAdd, Nat.reduceLeDiff, Nat.reduceMul, k0, k3, q]
      · exact done
      have hl0 : 0 < lu.length := by have := of_decide_eq_true q; omega
      refine callD (f66 c5.1 hw) rfl fun r H6 ⟨b6, e, cs6⟩ => ?_
      subst e
      have c6 := c5.trans cs6.cx
      have s6 : SlRw H6 u lu := s5.cs cs6 (fun h => by have := own_geD o5 id h; omega)
      simp only [go_sem, ↓reduceIte, Nat.reduceEqDiff, reduceCtorEq, Nat.reduceAdd, Nat.reduceLeDiff, Nat.reduceMul, k0, k3]
      refine brT.intro (fun q2 => ?_) (fun q2 => ?_) <;> simp only [go_sem, ↓reduceIte, Nat.reduceEqDiff, reduceCtorEq, Nat.reduceAdd, Nat.reduceLeDiff, Nat.reduceMul, k0, k3, s6.len]
      rotate_left
      · exact ⟨lu, s6, o5, c6, l5⟩
      refine callD (f89 c6.1 hw) rfl fun r H7 ⟨x7, e, hx0, hx1, _, cs7⟩ => ?_
      subst e
      obtain ⟨x, rfl⟩ : ∃ x : Nat, x7 = x := ⟨x7.toNat, by omega⟩
      have hx : x < lu.length := by have := hx1 (by omega); omega
      have c7 := c6.trans cs7.cx
      have s7 : SlRw H7 u lu := s6.cs cs7 (fun h => by have := own_geD o5 id h; omega)
      simp only [go_sem, ↓reduceIte, Nat.reduceEqDiff, reduceCtorEq, Nat.reduceAdd, Nat.reduceLeDiff, Nat.reduceMul, k0, k3]
      refine callD (f89 c7.1 hw) rfl fun r H8 ⟨x8, e, _, _, _, cs8⟩ => ?_
      subst e
      have c8 := c7.trans cs8.cx
      have s8 : SlRw H8 u lu := s7.cs cs8 (fun h => by have := own_geD o5 id h; omega)
      have n8 : H.length ≤ H8.length := c8.2.2
      have fin : ∀ (Ha : Hp) (z : Rw) (j : Nat) (y : Value), SlRw Ha u lu → CX H Ha c id → (eRw lu[x]).set j y = eRw z → j < 3 → ∀ id2 p o, Ha[id2]? = some o → p + 3 ≤ o.length → idsOf u = [id2] → En eRw lu[x] ((o.drop p).take 3) → (∀ a cs, cs.length = 3 → En eRw a cs → SlRw (Ha.set id2 (spl o p cs)) u (lu.set x a)) → TdR H c id u (Ha.set id2 (spl o (p + j) [y])) := fun Ha z j y hsl hcx hz hj id2 p o ho hp hid hel hst => by
        rw [spl_one hel hj hp, hz]
        have hN : H.length ≤ id2 := own_geD o5 id2 (by rw [hid]; simp)
        exact ⟨lu.set x z, hst z _ rfl rfl, o5, hcx.own hidl (fun j hj => List.getElem?_set_ne (by omega)) (by simp), by simp; omega⟩
      have zb : ∀ {Ha : Hp} {id2 : Nat}, idsOf u = [id2] → m.wr id2 = true := fun hid => hw0 _ (own_geD o5 _ (by rw [hid]; simp))
      have pick : ∀ L : List Int, L ≠ [] → True := fun _ _ => trivial
      simp only [go_sem, ↓reduceIte, Nat.reduceEqDiff, reduceCtorEq, Nat.reduceAdd, Nat.reduceLeDiff, Nat.reduceMul, k0, k3]
      refine brT.intro (fun q3 => ?_) (fun q3 => ?_) <;> simp only [go_sem, ↓reduceIte, Nat.reduceEqDiff, reduceCtorEq, Nat.reduceAdd, Nat.reduceLeDiff, Nat.reduceMul, k0, k3, fillL]
      · have hl3 := sl_ints (H := H8) [-1, 1, 99, 100] (by simp)
        have pn := List.prefix_append H8 [[(-1 : Int), 1, 99, 100].map (Value.int .i64)]
        have cn := c8.trans (CX.ofPre c8.1 pn)
        have sn := s8.pre pn
        refine callD (f71 cn.1 hw hl3 (by simp) (by simp [idsOf]; omega)) rfl fun r H9 ⟨y, _, e, cs9⟩ => ?_
        subst e
        have s9 : SlRw H9 u lu := sn.cs cs9 (fun h => by have := own_geD o5 id h; omega)
        obtain ⟨id2, p, o, ho, hp, hid, hel, hia, hst⟩ := s9.both hx
        have hp1 : p + 1 ≤ o.length := by omega
        have wid := zb (Ha := H9) hid
        simp only [go_sem, ↓reduceIte, Nat.reduceEqDiff, reduceCtorEq, Nat.reduceAdd, Nat.reduceLeDiff, Nat.reduceMul, k0, k3, hia, ho, hp1, wid]
        exact fin H9 (y, lu[x].2.1, lu[x].2.2) 0 (.int .i64 y) s9 (cn.trans cs9.cx) rfl (by omega) id2 p o ho hp hid hel hst
      refine brT.intro (fun q4 => ?_) (fun q4 => ?_) <;> simp only [go_sem, ↓reduceIte, Nat.reduceEqDiff, reduceCtorEq, Nat.reduceAdd, Nat.reduceLeDiff, Nat.reduceMul, k0, k3, fillL]
      · have hl3 := sl_ints (H := H8) [0, 1, 1000, 1001] (by simp)
        have pn := List.prefix_append H8 [[(0 : Int), 1, 1000, 1001].map (Value.int .i64)]
        have cn := c8.trans (CX.ofPre c8.1 pn)
        have sn := s8.pre pn
        refine callD (f71 cn.1 hw hl3 (by simp) (by simp [idsOf]; omega)) rfl fun r H9 ⟨y, _, e, cs9⟩ => ?_
        subst e
        have s9 : SlRw H9 u lu := sn.cs cs9 (fun h => by have := own_geD o5 id h; omega)
        obtain ⟨id2, p, o, ho, hp, hid, hel, hia, hst⟩ := s9.both hx
        have hp1 : p + 1 + 1 ≤ o.length := by omega
        have wid := zb (Ha := H9) hid
        simp only [go_sem, ↓reduceIte, Nat.reduceEqDiff, reduceCtorEq, Nat.reduceAdd, Nat.reduceLeDiff, Nat.reduceMul, k0, k3, hia, ho, hp1, wid]
        exact fin H9 (lu[x].1, y, lu[x].2.2) 1 (.int .i64 y) s9 (cn.trans cs9.cx) rfl (by omega) id2 p o ho hp hid hel hst
      · have hl3 := sl_ints (H := H8) [0, 6, 1000001] (by simp)
        have pn := List.prefix_append H8 [[(0 : Int), 6, 1000001].map (Value.int .i64)]
        have cn := c8.trans (CX.ofPre c8.1 pn)
        have sn := s8.pre pn
        refine callD (f71 cn.1 hw hl3 (by simp) (by simp [idsOf]; omega)) rfl fun r H9 ⟨y, _, e, cs9⟩ => ?_
        subst e
        have s9 : SlRw H9 u lu := sn.cs cs9 (fun h => by have := own_geD o5 id h; omega)
        obtain ⟨id2, p, o, ho, hp, hid, hel, hia, hst⟩ := s9.both hx
        have hp1 : p + 2 + 1 ≤ o.length := by omega
        have wid := zb (Ha := H9) hid
        simp only [go_sem, ↓reduceIte, Nat.reduceEqDiff, reduceCtorEq, Nat.reduceAdd, Nat.reduceLeDiff, Nat.reduceMul, k0, k3, hia, ho, hp1, wid]
        exact fin H9 (lu[x].1, lu[x].2.1, y) 2 (.int .i64 y) s9 (cn.trans cs9.cx) rfl (by omega) id2 p o ho hp hid hel hst)

end Go.Proofs.Ytjepmnmakemfoaa.Ev

/- Code of the program's functions, as the small machine has it: written by mkcode.py. -/
namespace Go.Proofs.Ytjepmnmakemfoaa.Ev
set_option linter.all false
open Go
def c10 : CF := ⟨106, (.seq (.reg false [⟨(some 6), .none, (.mov (.c (.bool false))), 0, []⟩]) (.seq (.reg false [⟨(some 7), .none, (.mov (.c (.int .i64 1048576))), 0, []⟩]) (.seq (.reg false [⟨(some 18), .none, (.mov (.t 0)), 0, []⟩, ⟨(some 19), .none, (.mov (.t 7)), 1, []⟩, ⟨(some 20), .none, (.call 15 [(.t 18), (.t 19)]), 2, []⟩, ⟨(some 7), .none, (.mov (.t 20)), 3, []⟩]) (.seq (.seq (.reg false [⟨(some 21), .none, (.mov (.t 7)), 0, []⟩, ⟨(some 22), .none, (.bin .lss (.t 21) (.c (.int .i64 0))), 1, []⟩]) (.cond (.t 22) (.seq (.reg false [⟨(some 6), .none, (.mov (.c (.bool true))), 0, []⟩]) .ret) .skip)) (.seq (.reg false [⟨(some 24), .none, (.mov (.t 0)), 0, []⟩, ⟨(some 25), .none, (.call 17 [(.t 24)]), 1, []⟩, ⟨(some 26), .none, (.mov (.t 1)), 2, []⟩, ⟨(some 27), .none, (.mov (.t 2)), 3, []⟩, ⟨(some 28), .none, (.call 36 [(.t 25), (.t 26), (.t 27)]), 4, []⟩, ⟨(some 23), .none, (.mov (.t 28)), 5, []⟩, ⟨(some 29), .none, (.ext (.t 23) 0), 6, []⟩, ⟨(some 30), .none, (.ext (.t 23) 1), 7, []⟩, ⟨(some 8), .none, (.mov (.t 29)), 8, []⟩, ⟨(some 9), .none, (.mov (.t 30)), 9, []⟩]) (.seq (.reg false [⟨(some 31), .none, (.mov (.t 0)), 0, []⟩, ⟨(some 32), .none, (.call 17 [(.t 31)]), 1, []⟩, ⟨(some 10), .none, (.mov (.t 32)), 2, []⟩]) (.seq (.reg false [⟨(some 34), .none, (.mov (.t 10)), 0, []⟩, ⟨(some 35), .none, (.mov (.t 1)), 1, []⟩, ⟨(some 36), .none, (.mov (.t 2)), 2, []⟩, ⟨(some 37), .none, (.call 37 [(.t 34), (.t 35), (.t 36)]), 3, []⟩, ⟨(some 33), .none, (.mov (.t 37)), 4, []⟩, ⟨(some 38), .none, (.ext (.t 33) 0), 5, []⟩, ⟨(some 39), .none, (.ext (.t 33) 1), 6, []⟩, ⟨(some 11), .none, (.mov (.t 38)), 7, []⟩, ⟨(some 12), .none, (.mov (.t 39)), 8, []⟩]) (.seq (.seq (.reg false [⟨(some 40), .none, (.mov (.t 11)), 0, []⟩, ⟨(some 41), .none, (.mov (.t 8)), 1, []⟩, ⟨(some 42), .none, (.call 19 [(.t 40), (.t 41)]), 2, []⟩, ⟨(some 43), .none, (.un .not (.t 42)), 3, []⟩, ⟨(some 44), .none, (.mov (.t 43)), 4, []⟩, ⟨(some 45), (.some (44, false)), (.mov (.t 12)), 5, []⟩, ⟨(some 46), (.some (44, false)), (.mov (.t 9)), 6, []⟩, ⟨(some 47), (.some (44, false)), (.beq true (.t 45) (.t 46)), 7, []⟩, ⟨(some 48), .none, (.pick (.t 44) (.c (.bool true)) (.t 47)), 8, []⟩]) (.cond (.t 48) (.seq (.reg false [⟨(some 6), .none, (.mov (.c (.bool false))), 0, []⟩]) .ret) .skip)) (.seq (.seq (.reg false [⟨(some 49), .none, (.mov (.t 10)), 0, []⟩, ⟨(some 50), .none, (.mov (.t 0)), 1, []⟩, ⟨(some 51), .none, (.call 17 [(.t 50)]), 2, []⟩, ⟨(some 52), .none, (.call 19 [(.t 49), (.t 51)]), 3, []⟩, ⟨(some 53), .none, (.un .not (.t 52)), 4, []⟩]) (.cond (.t 53) (.seq (.reg false [⟨(some 6), .none, (.mov (.c (.bool false))), 0, []⟩]) .ret) .skip)) (.seq (.reg false [⟨(some 13), .none, (.mov (.c (.int .i64 1))), 0, []⟩]) (.seq (.reg false [⟨(some 54), .none, (.mov (.t 10)), 0, []⟩, ⟨(some 55), .none, (.mov (.t 13)), 1, []⟩, ⟨(some 56), .none, (.call 29 [(.t 54), (.t 55)]), 2, []⟩, ⟨(some 13), .none, (.mov (.t 56)), 3, []⟩]) (.seq (.seq (.reg false [⟨(some 57), .none, (.mov (.t 13)), 0, []⟩, ⟨(some 58), .none, (.bin .lss (.t 57) (.c (.int .i64 0))), 1, []⟩, ⟨(some 59), .none, (.mov (.t 58)), 2, []⟩, ⟨(some 60), (.some (59, false)), (.mov (.t 11)), 3, []⟩, ⟨(some 61), (.some (59, false)), (.mov (.t 8)), 4, []⟩, ⟨(some 62), (.some (59, false)), (.call 19 [(.t 60), (.t 61)]), 5, []⟩, ⟨(some 63), (.some (59, false)), (.un .not (.t 62)), 6, []⟩, ⟨(some 64), .none, (.pick (.t 59) (.c (.bool true)) (.t 63)), 7, []⟩, ⟨(some 65), .none, (.mov (.t 64)), 8, []⟩, ⟨(some 66), (.some (65, false)), (.mov (.t 12)), 9, []⟩, ⟨(some 67), (.some (65, false)), (.mov (.t 9)), 10, []⟩, ⟨(some 68), (.some (65, false)), (.beq true (.t 66) (.t 67)), 11, []⟩, ⟨(some 69), .none, (.pick (.t 65) (.c (.bool true)) (.t 68)), 12, []⟩]) (.cond (.t 69) (.seq (.reg false [⟨(some 6), .none, (.mov (.c (.bool false))), 0, []⟩]) .ret) .skip)) (.seq (.reg false [⟨(some 14), .none, (.mov (.c (.int .i64 1))), 0, []⟩]) (.seq (.reg false [⟨(some 70), .none, (.mov (.t 11)), 0, []⟩, ⟨(some 71), .none, (.mov (.t 14)), 1, []⟩, ⟨(some 72), .none, (.call 29 [(.t 70), (.t 71)]), 2, []⟩, ⟨(some 14), .none, (.mov (.t 72)), 3, []⟩]) (.seq (.reg false [⟨(some 15), .none, (.mov (.c (.int .i64 1))), 0, []⟩]) (.seq (.reg false [⟨(some 73), .none, (.mov (.t 11)), 0, []⟩, ⟨(some 74), .none, (.mov (.t 15)), 1, []⟩, ⟨(some 75), .none, (.call 30 [(.t 73), (.t 74)]), 2, []⟩, ⟨(some 15), .none, (.mov (.t 75)), 3, []⟩]) (.seq (.seq (.reg false [⟨(some 76), .none, (.mov (.t 15)), 0, []⟩, ⟨(some 77), .none, (.bin .lss (.t 76) (.c (.int .i64 0))), 1, []⟩]) (.cond (.t 77) (.seq (.reg false [⟨(some 6), .none, (.mov (.c (.bool false))), 0, []⟩]) .ret) .skip)) (.seq (.seq (.reg false [⟨(some 78), .none, (.mov (.t 15)), 0, []⟩, ⟨(some 79), .none, (.mov (.t 14)), 1, []⟩, ⟨(some 80), .none, (.bin .neq (.t 78) (.t 79)), 2, []⟩]) (.cond (.t 80) (.seq (.reg false [⟨(some 6), .none, (.mov (.c (.bool false))), 0, []⟩]) .ret) .skip)) (.seq (.reg false [⟨(some 82), .none, (.mov (.t 0)), 0, []⟩, ⟨(some 83), .none, (.call 17 [(.t 82)]), 1, []⟩, ⟨(some 84), .none, (.mov (.t 1)), 2, []⟩, ⟨(some 85), .none, (.mov (.t 2)), 3, []⟩, ⟨(some 86), .none, (.call 37 [(.t 83), (.t 84), (.t 85)]), 4, []⟩, ⟨(some 81), .none, (.mov (.t 86)), 5, []⟩, ⟨(some 87), .none, (.ext (.t 81) 0), 6, []⟩, ⟨(some 88), .none, (.ext (.t 81) 1), 7, []⟩, ⟨(some 16), .none, (.mov (.t 87)), 8, []⟩, ⟨(some 17), .none, (.mov (.t 88)), 9, []⟩]) (.seq (.seq (.reg false [⟨(some 89), .none, (.mov (.t 16)), 0, []⟩, ⟨(some 90), .none, (.mov (.t 8)), 1, []⟩, ⟨(some 91), .none, (.call 19 [(.t 89), (.t 90)]), 2, []⟩, ⟨(some 92), .none, (.un .not (.t 91)), 3, []⟩, ⟨(some 93), .none, (.mov (.t 92)), 4, []⟩, ⟨(some 94), (.some (93, false)), (.mov (.t 17)), 5, []⟩, ⟨(some 95), (.some (93, false)), (.mov (.t 9)), 6, []⟩, ⟨(some 96), (.some (93, false)), (.beq true (.t 94) (.t 95)), 7, []⟩, ⟨(some 97), .none, (.pick (.t 93) (.c (.bool true)) (.t 96)), 8, []⟩]) (.cond (.t 97) (.seq (.reg false [⟨(some 6), .none, (.mov (.c (.bool false))), 0, []⟩]) .ret) .skip)) (.seq (.reg false [⟨(some 15), .none, (.mov (.c (.int .i64 1))), 0, []⟩]) (.seq (.reg false [⟨(some 98), .none, (.mov (.t 11)), 0, []⟩, ⟨(some 99), .none, (.mov (.t 15)), 1, []⟩, ⟨(some 100), .none, (.call 30 [(.t 98), (.t 99)]), 2, []⟩, ⟨(some 15), .none, (.mov (.t 100)), 3, []⟩]) (.seq (.seq (.reg false [⟨(some 101), .none, (.mov (.t 15)), 0, []⟩, ⟨(some 102), .none, (.bin .lss (.t 101) (.c (.int .i64 0))), 1, []⟩]) (.cond (.t 102) (.seq (.reg false [⟨(some 6), .none, (.mov (.c (.bool false))), 0, []⟩]) .ret) .skip)) (.seq (.seq (.reg false [⟨(some 103), .none, (.mov (.t 15)), 0, []⟩, ⟨(some 104), .none, (.mov (.t 14)), 1, []⟩, ⟨(some 105), .none, (.bin .neq (.t 103) (.t 104)), 2, []⟩]) (.cond (.t 105) (.seq (.reg false [⟨(some 6), .none, (.mov (.c (.bool false))), 0, []⟩]) .ret) .skip)) (.seq (.reg false [⟨(some 6), .none, (.mov (.c (.bool true))), 0, []⟩]) .ret))))))))))))))))))))))))), [(.t 6)]⟩
theorem k10 : EE.fns 10 = some c10 := by kernel_rfl
def c23 : CF := ⟨29, (.seq (.reg false [⟨(some 4), .none, (.newV [(.int .i64 0), (.int .i64 0), (.int .i64 0)]), 0, []⟩, ⟨(some 5), .none, (.mov (.c (.bool false))), 1, []⟩]) (.seq (.reg false [⟨(some 10), .none, (.build [(.int .i64 0), (.int .i64 0), (.int .i64 0)] []), 0, []⟩, ⟨(some 6), .none, (.newV [(.int .i64 0), (.int .i64 0), (.int .i64 0)]), 1, []⟩, ⟨.none, .none, (.store 3 (.t 6) (.t 10)), 2, []⟩, ⟨(some 7), .none, (.mov (.c (.bool false))), 3, []⟩]) (.seq (.seq (.reg false [⟨(some 11), .none, (.mov (.t 0)), 0, []⟩, ⟨(some 12), .none, (.lenS (.t 11)), 1, []⟩, ⟨(some 13), .none, (.mov (.c (.int .i64 0))), 2, []⟩]) (.block 0 (.loop (.seq (.reg false [⟨(some 14), .none, (.bin .lss (.t 13) (.t 12)), 0, []⟩]) (.seq (.cond (.t 14) .skip (.exit 0)) (.seq (.block 1 (.seq (.reg false [⟨(some 15), .none, (.iadr 3 (.t 11) (.t 13)), 0, []⟩, ⟨(some 16), .none, (.load 3 true (.t 15)), 1, []⟩, ⟨(some 9), .none, (.newV [(.int .i64 0), (.int .i64 0), (.int .i64 0)]), 2, []⟩, ⟨.none, .none, (.store 3 (.t 9) (.t 16)), 3, []⟩]) (.seq (.reg false [⟨(some 17), .none, (.fadr 0 (.t 9)), 0, []⟩, ⟨(some 18), .none, (.load 1 false (.t 17)), 1, []⟩, ⟨(some 19), .none, (.mov (.t 1)), 2, []⟩, ⟨(some 20), .none, (.bin .eql (.t 18) (.t 19)), 3, []⟩, ⟨(some 21), .none, (.mov (.t 20)), 4, []⟩, ⟨(some 22), (.some (21, true)), (.mov (.t 0)), 5, []⟩, ⟨(some 23), (.some (21, true)), (.call 18 [(.t 22)]), 6, []⟩, ⟨(some 24), .none, (.pick (.t 21) (.t 23) (.c (.bool false))), 7, []⟩]) (.cond (.t 24) (.reg false [⟨(some 25), .none, (.load 3 true (.t 9)), 0, []⟩, ⟨.none, .none, (.store 3 (.t 6) (.t 25)), 1, []⟩, ⟨(some 7), .none, (.mov (.c (.bool true))), 2, []⟩]) .skip)))) (.reg false [⟨(some 26), .none, (.bin .add (.t 13) (.c (.int .i64 1))), 0, []⟩, ⟨(some 13), .none, (.mov (.t 26)), 1, []⟩]))))))) (.seq (.reg false [⟨(some 27), .none, (.load 3 true (.t 6)), 0, []⟩, ⟨(some 28), .none, (.mov (.t 7)), 1, []⟩, ⟨.none, .none, (.store 3 (.t 4) (.t 27)), 2, []⟩, ⟨(some 5), .none, (.mov (.t 28)), 3, []⟩]) .ret)))), [(.cell 4 3 true), (.t 5)]⟩
theorem k23 : EE.fns 23 = some c23 := by kernel_rfl
def c37 : CF := ⟨58, (.seq (.reg false [⟨(some 6), .none, (.mov (.c (.slice .none 0 0))), 0, []⟩, ⟨(some 7), .none, (.mov (.c (.bool false))), 1, []⟩]) (.seq (.seq (.reg false [⟨(some 11), .none, (.mov (.t 0)), 0, []⟩, ⟨(some 12), .none, (.call 18 [(.t 11)]), 1, []⟩, ⟨(some 13), .none, (.un .not (.t 12)), 2, []⟩]) (.cond (.t 13) (.seq (.reg false [⟨(some 6), .none, (.mov (.c (.slice .none 0 0))), 0, []⟩, ⟨(some 7), .none, (.mov (.c (.bool false))), 1, []⟩]) .ret) .skip)) (.seq (.reg false [⟨(some 14), .none, (.mov (.t 0)), 0, []⟩, ⟨(some 15), .none, (.call 69 [(.t 14)]), 1, []⟩, ⟨(some 8), .none, (.mov (.t 15)), 2, []⟩]) (.seq (.reg false [⟨(some 17), .none, (.mov (.t 0)), 0, []⟩, ⟨(some 18), .none, (.mov (.t 1)), 1, []⟩, ⟨(some 19), .none, (.call 23 [(.t 17), (.t 18)]), 2, []⟩, ⟨(some 16), .none, (.mov (.t 19)), 3, []⟩, ⟨(some 20), .none, (.ext (.t 16) 0), 4, []⟩, ⟨(some 21), .none, (.ext (.t 16) 1), 5, []⟩, ⟨(some 9), .none, (.newV [(.int .i64 0), (.int .i64 0), (.int .i64 0)]), 6, []⟩, ⟨.none, .none, (.store 3 (.t 9) (.t 20)), 7, []⟩, ⟨(some 10), .none, (.mov (.t 21)), 8, []⟩]) (.seq (.seq (.reg false [⟨(some 22), .none, (.mov (.t 1)), 0, []⟩, ⟨(some 23), .none, (.call 54 [(.t 22)]), 1, []⟩, ⟨(some 24), .none, (.un .not (.t 23)), 2, []⟩, ⟨(some 25), .none, (.mov (.t 24)), 3, []⟩, ⟨(some 26), (.some (25, false)), (.mov (.t 2)), 4, []⟩, ⟨(some 27), (.some (25, false)), (.call 56 [(.t 26)]), 5, []⟩, ⟨(some 28), (.some (25, false)), (.un .not (.t 27)), 6, []⟩, ⟨(some 29), .none, (.pick (.t 25) (.c (.bool true)) (.t 28)), 7, []⟩, ⟨(some 30), .none, (.mov (.t 29)), 8, []⟩, ⟨(some 31), (.some (30, false)), (.mov (.t 0)), 9, []⟩, ⟨(some 32), (.some (30, false)), (.mov (.t 2)), 10, []⟩, ⟨(some 33), (.some (30, false)), (.call 58 [(.t 31), (.t 32)]), 11, []⟩, ⟨(some 34), .none, (.pick (.t 30) (.c (.bool true)) (.t 33)), 12, []⟩, ⟨(some 35), .none, (.mov (.t 34)), 13, []⟩, ⟨(some 36), (.some (35, false)), (.mov (.t 0)), 14, []⟩, ⟨(some 37), (.some (35, false)), (.lenS (.t 36)), 15, []⟩, ⟨(some 38), (.some (35, false)), (.bin .eql (.t 37) (.c (.int .i64 20))), 16, []⟩, ⟨(some 39), .none, (.pick (.t 35) (.c (.bool true)) (.t 38)), 17, []⟩, ⟨(some 40), .none, (.mov (.t 39)), 18, []⟩, ⟨(some 41), (.some (40, false)), (.fadr 1 (.t 9)), 19, []⟩, ⟨(some 42), (.some (40, false)), (.load 1 false (.t 41)), 20, []⟩, ⟨(some 43), (.some (40, false)), (.bin .eql (.t 42) (.c (.int .i64 1000))), 21, []⟩, ⟨(some 44), .none, (.pick (.t 40) (.c (.bool true)) (.t 43)), 22, []⟩]) (.cond (.t 44) (.seq (.reg false [⟨(some 45), .none, (.mov (.t 8)), 0, []⟩, ⟨(some 6), .none, (.mov (.t 45)), 1, []⟩, ⟨(some 7), .none, (.mov (.c (.bool false))), 2, []⟩]) .ret) .skip)) (.seq (.reg false [⟨(some 46), .none, (.mov (.t 8)), 0, []⟩, ⟨(some 47), .none, (.mov (.t 1)), 1, []⟩, ⟨(some 48), .none, (.fadr 1 (.t 9)), 2, []⟩, ⟨(some 49), .none, (.load 1 false (.t 48)), 3, []⟩, ⟨(some 50), .none, (.bin .add (.t 49) (.c (.int .i64 1))), 4, []⟩, ⟨(some 51), .none, (.mov (.t 2)), 5, []⟩, ⟨(some 52), .none, (.build [(.int .i64 0), (.int .i64 0), (.int .i64 0)] [(0, (1, (.t 47))), (1, (1, (.t 50))), (2, (1, (.t 51)))]), 6, []⟩, ⟨(some 53), .none, (.mkV 1 3 [(.int .i64 0), (.int .i64 0), (.int .i64 0)] [(0, (.t 52))]), 7, []⟩, ⟨(some 54), .none, (.app 3 24 (.t 46) (.t 53)), 8, []⟩, ⟨(some 8), .none, (.mov (.t 54)), 9, []⟩]) (.seq (.reg false [⟨(some 55), .none, (.mov (.t 8)), 0, []⟩, ⟨(some 56), .none, (.call 70 [(.t 55), (.f 57)]), 1, []⟩]) (.seq (.reg false [⟨(some 57), .none, (.mov (.t 8)), 0, []⟩, ⟨(some 6), .none, (.mov (.t 57)), 1, []⟩, ⟨(some 7), .none, (.mov (.c (.bool true))), 2, []⟩]) .ret)))))))), [(.t 6), (.t 7)]⟩
theorem k37 : EE.fns 37 = some c37 := by kernel_rfl
def c69 : CF := ⟨5, (.seq (.reg false [⟨(some 2), .none, (.mov (.c (.slice .none 0 0))), 0, []⟩]) (.seq (.reg false [⟨(some 3), .none, (.mov (.t 0)), 0, []⟩, ⟨(some 4), .none, (.app 3 24 (.c (.slice .none 0 0)) (.t 3)), 1, []⟩, ⟨(some 2), .none, (.mov (.t 4)), 2, []⟩]) .ret)), [(.t 2)]⟩
theorem k69 : EE.fns 69 = some c69 := by kernel_rfl
def c70 : CF := ⟨14, (.seq (.reg false [⟨(some 5), .none, (.mov (.t 0)), 0, []⟩, ⟨(some 6), .none, (.lenS (.t 5)), 1, []⟩, ⟨(some 4), .none, (.mov (.t 6)), 2, []⟩]) (.reg false [⟨(some 7), .none, (.mov (.t 0)), 0, []⟩, ⟨(some 8), .none, (.mov (.t 4)), 1, []⟩, ⟨(some 9), .none, (.mov (.t 4)), 2, []⟩, ⟨(some 10), .none, (.toInt .u64 (.t 9)), 3, []⟩, ⟨(some 11), .none, (.call 93 [(.t 10)]), 4, []⟩, ⟨(some 12), .none, (.mov (.t 1)), 5, []⟩, ⟨(some 13), .none, (.call 92 [(.t 7), (.c (.int .i64 0)), (.t 8), (.t 11), (.t 12)]), 6, []⟩])), []⟩
theorem k70 : EE.fns 70 = some c70 := by kernel_rfl
def c92 : CF := ⟨148, (.seq (.reg false [⟨(some 10), .none, (.mov (.c (.bool true))), 0, []⟩]) (.seq (.reg false [⟨(some 11), .none, (.mov (.c (.bool true))), 0, []⟩]) (.block 0 (.loop (.block 1 (.seq (.reg false [⟨(some 21), .none, (.mov (.t 2)), 0, []⟩, ⟨(some 22), .none, (.mov (.t 1)), 1, []⟩, ⟨(some 23), .none, (.bin .sub (.t 21) (.t 22)), 2, []⟩, ⟨(some 12), .none, (.mov (.t 23)), 3, []⟩]) (.seq (.seq (.reg false [⟨(some 24), .none, (.mov (.t 12)), 0, []⟩, ⟨(some 25), .none, (.bin .leq (.t 24) (.c (.int .i64 12))), 1, []⟩]) (.cond (.t 25) (.seq (.reg false [⟨(some 26), .none, (.mov (.t 0)), 0, []⟩, ⟨(some 27), .none, (.mov (.t 1)), 1, []⟩, ⟨(some 28), .none, (.mov (.t 2)), 2, []⟩, ⟨(some 29), .none, (.mov (.t 4)), 3, []⟩, ⟨(some 30), .none, (.call 98 [(.t 26), (.t 27), (.t 28), (.t 29)]), 4, []⟩]) .ret) .skip)) (.seq (.seq (.reg false [⟨(some 31), .none, (.mov (.t 3)), 0, []⟩, ⟨(some 32), .none, (.bin .eql (.t 31) (.c (.int .i64 0))), 1, []⟩]) (.cond (.t 32) (.seq (.reg false [⟨(some 33), .none, (.mov (.t 0)), 0, []⟩, ⟨(some 34), .none, (.mov (.t 1)), 1, []⟩, ⟨(some 35), .none, (.mov (.t 2)), 2, []⟩, ⟨(some 36), .none, (.mov (.t 4)), 3, []⟩, ⟨(some 37), .none, (.call 99 [(.t 33), (.t 34), (.t 35), (.t 36)]), 4, []⟩]) .ret) .skip)) (.seq (.seq (.reg false [⟨(some 38), .none, (.mov (.t 10)), 0, []⟩, ⟨(some 39), .none, (.un .not (.t 38)), 1, []⟩]) (.cond (.t 39) (.seq (.reg false [⟨(some 40), .none, (.mov (.t 0)), 0, []⟩, ⟨(some 41), .none, (.mov (.t 1)), 1, []⟩, ⟨(some 42), .none, (.mov (.t 2)), 2, []⟩, ⟨(some 43), .none, (.mov (.t 4)), 3, []⟩, ⟨(some 44), .none, (.call 100 [(.t 40), (.t 41), (.t 42), (.t 43)]), 4, []⟩]) (.reg false [⟨(some 45), .none, (.mov (.t 3)), 0, []⟩, ⟨(some 46), .none, (.bin .sub (.t 45) (.c (.int .i64 1))), 1, []⟩, ⟨(some 3), .none, (.mov (.t 46)), 2, []⟩])) .skip)) (.seq (.reg false [⟨(some 48), .none, (.mov (.t 0)), 0, []⟩, ⟨(some 49), .none, (.mov (.t 1)), 1, []⟩, ⟨(some 50), .none, (.mov (.t 2)), 2, []⟩, ⟨(some 51), .none, (.mov (.t 4)), 3, []⟩, ⟨(some 52), .none, (.call 101 [(.t 48), (.t 49), (.t 50), (.t 51)]), 4, []⟩, ⟨(some 47), .none, (.mov (.t 52)), 5, []⟩, ⟨(some 53), .none, (.ext (.t 47) 0), 6, []⟩, ⟨(some 54), .none, (.ext (.t 47) 1), 7, []⟩, ⟨(some 13), .none, (.mov (.t 53)), 8, []⟩, ⟨(some 14), .none, (.mov (.t 54)), 9, []⟩]) (.seq (.seq (.reg false [⟨(some 55), .none, (.mov (.t 14)), 0, []⟩, ⟨(some 56), .none, (.bin .eql (.t 55) (.c (.int .i64 2))), 1, []⟩]) (.cond (.t 56) (.seq (.reg false [⟨(some 57), .none, (.mov (.t 0)), 0, []⟩, ⟨(some 58), .none, (.mov (.t 1)), 1, []⟩, ⟨(some 59), .none, (.mov (.t 2)), 2, []⟩, ⟨(some 60), .none, (.mov (.t 4)), 3, []⟩, ⟨(some 61), .none, (.call 102 [(.t 57), (.t 58), (.t 59), (.t 60)]), 4, []⟩]) (.seq (.reg false [⟨(some 62), .none, (.mov (.t 2)), 0, []⟩, ⟨(some 63), .none, (.bin .sub (.t 62) (.c (.int .i64 1))), 1, []⟩, ⟨(some 64), .none, (.mov (.t 13)), 2, []⟩, ⟨(some 65), .none, (.mov (.t 1)), 3, []⟩, ⟨(some 66), .none, (.bin .sub (.t 64) (.t 65)), 4, []⟩, ⟨(some 67), .none, (.bin .sub (.t 63) (.t 66)), 5, []⟩, ⟨(some 13), .none, (.mov (.t 67)), 6, []⟩]) (.reg false [⟨(some 14), .none, (.mov (.c (.int .i64 1))), 0, []⟩]))) .skip)) (.seq (.seq (.reg false [⟨(some 68), .none, (.mov (.t 10)), 0, []⟩, ⟨(some 69), .none, (.mov (.t 68)), 1, []⟩, ⟨(some 70), (.some (69, true)), (.mov (.t 11)), 2, []⟩, ⟨(some 71), .none, (.pick (.t 69) (.t 70) (.c (.bool false))), 3, []⟩, ⟨(some 72), .none, (.mov (.t 71)), 4, []⟩, ⟨(some 73), (.some (72, true)), (.mov (.t 14)), 5, []⟩, ⟨(some 74), (.some (72, true)), (.bin .eql (.t 73) (.c (.int .i64 1))), 6, []⟩, ⟨(some 75), .none, (.pick (.t 72) (.t 74) (.c (.bool false))), 7, []⟩]) (.cond (.t 75) (.seq (.reg false [⟨(some 76), .none, (.mov (.t 0)), 0, []⟩, ⟨(some 77), .none, (.mov (.t 1)), 1, []⟩, ⟨(some 78), .none, (.mov (.t 2)), 2, []⟩, ⟨(some 79), .none, (.mov (.t 4)), 3, []⟩, ⟨(some 80), .none, (.call 103 [(.t 76), (.t 77), (.t 78), (.t 79)]), 4, []⟩]) (.cond (.t 80) .ret .skip)) .skip)) (.seq (.seq (.reg true [⟨(some 81), .none, (.mov (.t 1)), 0, []⟩, ⟨(some 82), .none, (.bin .gtr (.t 81) (.c (.int .i64 0))), 1, [0]⟩, ⟨(some 83), .none, (.mov (.t 82)), 2, [1, 0]⟩, ⟨(some 84), (.some (83, true)), (.mov (.t 4)), 3, [2, 1, 0]⟩, ⟨(some 85), (.some (83, true)), (.mov (.t 0)), 4, [2, 1, 0]⟩, ⟨(some 86), (.some (83, true)), (.mov (.t 1)), 5, [2, 1, 0]⟩, ⟨(some 87), (.some (83, true)), (.bin .sub (.t 86) (.c (.int .i64 1))), 6, [5, 2, 1, 0]⟩, ⟨(some 88), (.some (83, true)), (.iadr 3 (.t 85) (.t 87)), 7, [4, 2, 1, 0, 6, 5]⟩, ⟨(some 89), (.some (83, true)), (.load 3 true (.t 88)), 8, [7, 4, 2, 1, 0, 6, 5]⟩, ⟨(some 90), (.some (83, true)), (.mov (.t 0)), 9, [2, 1, 0]⟩, ⟨(some 91), (.some (83, true)), (.mov (.t 13)), 10, [2, 1, 0]⟩, ⟨(some 92), (.some (83, true)), (.iadr 3 (.t 90) (.t 91)), 11, [9, 2, 1, 0, 10]⟩, ⟨(some 93), (.some (83, true)), (.load 3 true (.t 92)), 12, [11, 9, 2, 1, 0, 10]⟩, ⟨(some 94), (.some (83, true)), (.callV (.t 84) [(.t 89), (.t 93)]), 13, [3, 2, 1, 0, 8, 7, 4, 6, 5, 12, 11, 9, 10]⟩, ⟨(some 95), (.some (83, true)), (.bin .lss (.t 94) (.c (.int .i64 0))), 14, [13, 3, 2, 1, 0, 8, 7, 4, 6, 5, 12, 11, 9, 10]⟩, ⟨(some 96), (.some (83, true)), (.un .not (.t 95)), 15, [14, 13, 3, 2, 1, 0, 8, 7, 4, 6, 5, 12, 11, 9, 10]⟩, ⟨(some 97), .none, (.pick (.t 83) (.t 96) (.c (.bool false))), 16, [2, 1, 0, 15, 14, 13, 3, 8, 7, 4, 6, 5, 12, 11, 9, 10]⟩]) (.cond (.t 97) (.seq (.reg false [⟨(some 98), .none, (.mov (.t 0)), 0, []⟩, ⟨(some 99), .none, (.mov (.t 1)), 1, []⟩, ⟨(some 100), .none, (.mov (.t 2)), 2, []⟩, ⟨(some 101), .none, (.mov (.t 13)), 3, []⟩, ⟨(some 102), .none, (.mov (.t 4)), 4, []⟩, ⟨(some 103), .none, (.call 104 [(.t 98), (.t 99), (.t 100), (.t 101), (.t 102)]), 5, []⟩, ⟨(some 15), .none, (.mov (.t 103)), 6, []⟩]) (.seq (.reg false [⟨(some 104), .none, (.mov (.t 15)), 0, []⟩, ⟨(some 1), .none, (.mov (.t 104)), 1, []⟩]) (.exit 1))) .skip)) (.seq (.reg false [⟨(some 106), .none, (.mov (.t 0)), 0, []⟩, ⟨(some 107), .none, (.mov (.t 1)), 1, []⟩, ⟨(some 108), .none, (.mov (.t 2)), 2, []⟩, ⟨(some 109), .none, (.mov (.t 13)), 3, []⟩, ⟨(some 110), .none, (.mov (.t 4)), 4, []⟩, ⟨(some 111), .none, (.call 105 [(.t 106), (.t 107), (.t 108), (.t 109), (.t 110)]), 5, []⟩, ⟨(some 105), .none, (.mov (.t 111)), 6, []⟩, ⟨(some 112), .none, (.ext (.t 105) 0), 7, []⟩, ⟨(some 113), .none, (.ext (.t 105) 1), 8, []⟩, ⟨(some 16), .none, (.mov (.t 112)), 9, []⟩, ⟨(some 17), .none, (.mov (.t 113)), 10, []⟩]) (.seq (.reg false [⟨(some 114), .none, (.mov (.t 17)), 0, []⟩, ⟨(some 11), .none, (.mov (.t 114)), 1, []⟩]) (.seq (.reg false [⟨(some 115), .none, (.mov (.t 16)), 0, []⟩, ⟨(some 116), .none, (.mov (.t 1)), 1, []⟩, ⟨(some 117), .none, (.bin .sub (.t 115) (.t 116)), 2, []⟩, ⟨(some 118), .none, (.mov (.t 2)), 3, []⟩, ⟨(some 119), .none, (.mov (.t 16)), 4, []⟩, ⟨(some 120), .none, (.bin .sub (.t 118) (.t 119)), 5, []⟩, ⟨(some 18), .none, (.mov (.t 117)), 6, []⟩, ⟨(some 19), .none, (.mov (.t 120)), 7, []⟩]) (.seq (.reg false [⟨(some 121), .none, (.mov (.t 12)), 0, []⟩, ⟨(some 122), .none, (.bin .quo (.t 121) (.c (.int .i64 8))), 1, []⟩, ⟨(some 20), .none, (.mov (.t 122)), 2, []⟩]) (.seq (.reg false [⟨(some 123), .none, (.mov (.t 18)), 0, []⟩, ⟨(some 124), .none, (.mov (.t 19)), 1, []⟩, ⟨(some 125), .none, (.bin .lss (.t 123) (.t 124)), 2, []⟩]) (.cond (.t 125) (.seq (.reg false [⟨(some 126), .none, (.mov (.t 18)), 0, []⟩, ⟨(some 127), .none, (.mov (.t 20)), 1, []⟩, ⟨(some 128), .none, (.bin .geq (.t 126) (.t 127)), 2, []⟩, ⟨(some 10), .none, (.mov (.t 128)), 3, []⟩]) (.seq (.reg false [⟨(some 129), .none, (.mov (.t 0)), 0, []⟩, ⟨(some 130), .none, (.mov (.t 1)), 1, []⟩, ⟨(some 131), .none, (.mov (.t 16)), 2, []⟩, ⟨(some 132), .none, (.mov (.t 3)), 3, []⟩, ⟨(some 133), .none, (.mov (.t 4)), 4, []⟩, ⟨(some 134), .none, (.call 92 [(.t 129), (.t 130), (.t 131), (.t 132), (.t 133)]), 5, []⟩]) (.reg false [⟨(some 135), .none, (.mov (.t 16)), 0, []⟩, ⟨(some 136), .none, (.bin .add (.t 135) (.c (.int .i64 1))), 1, []⟩, ⟨(some 1), .none, (.mov (.t 136)), 2, []⟩]))) (.seq (.reg false [⟨(some 137), .none, (.mov (.t 19)), 0, []⟩, ⟨(some 138), .none, (.mov (.t 20)), 1, []⟩, ⟨(some 139), .none, (.bin .geq (.t 137) (.t 138)), 2, []⟩, ⟨(some 10), .none, (.mov (.t 139)), 3, []⟩]) (.seq (.reg false [⟨(some 140), .none, (.mov (.t 0)), 0, []⟩, ⟨(some 141), .none, (.mov (.t 16)), 1, []⟩, ⟨(some 142), .none, (.bin .add (.t 141) (.c (.int .i64 1))), 2, []⟩, ⟨(some 143), .none, (.mov (.t 2)), 3, []⟩, ⟨(some 144), .none, (.mov (.t 3)), 4, []⟩, ⟨(some 145), .none, (.mov (.t 4)), 5, []⟩, ⟨(some 146), .none, (.call 92 [(.t 140), (.t 142), (.t 143), (.t 144), (.t 145)]), 6, []⟩]) (.reg false [⟨(some 147), .none, (.mov (.t 16)), 0, []⟩, ⟨(some 2), .none, (.mov (.t 147)), 1, []⟩])))))))))))))))))))))), []⟩
theorem k92 : EE.fns 92 = some c92 := by kernel_rfl
def c93 : CF := ⟨8, (.seq (.reg false [⟨(some 2), .none, (.mov (.c (.int .i64 0))), 0, []⟩]) (.seq (.cond (.c (.bool false)) (.seq (.reg false [⟨(some 3), .none, (.mov (.t 0)), 0, []⟩, ⟨(some 4), .none, (.toInt .u32 (.t 3)), 1, []⟩, ⟨(some 5), .none, (.call 106 [(.t 4)]), 2, []⟩, ⟨(some 2), .none, (.mov (.t 5)), 3, []⟩]) .ret) .skip) (.seq (.reg false [⟨(some 6), .none, (.mov (.t 0)), 0, []⟩, ⟨(some 7), .none, (.call 107 [(.t 6)]), 1, []⟩, ⟨(some 2), .none, (.mov (.t 7)), 2, []⟩]) .ret))), [(.t 2)]⟩
theorem k93 : EE.fns 93 = some c93 := by kernel_rfl
def c98 : CF := ⟨53, (.seq (.reg false [⟨(some 10), .none, (.mov (.t 1)), 0, []⟩, ⟨(some 11), .none, (.bin .add (.t 10) (.c (.int .i64 1))), 1, []⟩, ⟨(some 8), .none, (.mov (.t 11)), 2, []⟩]) (.block 0 (.loop (.seq (.seq (.reg false [⟨(some 12), .none, (.mov (.t 8)), 0, []⟩, ⟨(some 13), .none, (.mov (.t 2)), 1, []⟩, ⟨(some 14), .none, (.bin .lss (.t 12) (.t 13)), 2, []⟩]) (.cond (.t 14) .skip (.exit 0))) (.seq (.block 1 (.seq (.reg false [⟨(some 17), .none, (.mov (.t 8)), 0, []⟩, ⟨(some 9), .none, (.mov (.t 17)), 1, []⟩]) (.block 2 (.loop (.seq (.seq (.reg true [⟨(some 18), .none, (.mov (.t 9)), 0, []⟩, ⟨(some 19), .none, (.mov (.t 1)), 1, []⟩, ⟨(some 20), .none, (.bin .gtr (.t 18) (.t 19)), 2, [0, 1]⟩, ⟨(some 21), .none, (.mov (.t 20)), 3, [2, 0, 1]⟩, ⟨(some 22), (.some (21, true)), (.mov (.t 3)), 4, [3, 2, 0, 1]⟩, ⟨(some 23), (.some (21, true)), (.mov (.t 0)), 5, [3, 2, 0, 1]⟩, ⟨(some 24), (.some (21, true)), (.mov (.t 9)), 6, [3, 2, 0, 1]⟩, ⟨(some 25), (.some (21, true)), (.iadr 3 (.t 23) (.t 24)), 7, [5, 3, 2, 0, 1, 6]⟩, ⟨(some 26), (.some (21, true)), (.load 3 true (.t 25)), 8, [7, 5, 3, 2, 0, 1, 6]⟩, ⟨(some 27), (.some (21, true)), (.mov (.t 0)), 9, [3, 2, 0, 1]⟩, ⟨(some 28), (.some (21, true)), (.mov (.t 9)), 10, [3, 2, 0, 1]⟩, ⟨(some 29), (.some (21, true)), (.bin .sub (.t 28) (.c (.int .i64 1))), 11, [10, 3, 2, 0, 1]⟩, ⟨(some 30), (.some (21, true)), (.iadr 3 (.t 27) (.t 29)), 12, [9, 3, 2, 0, 1, 11, 10]⟩, ⟨(some 31), (.some (21, true)), (.load 3 true (.t 30)), 13, [12, 9, 3, 2, 0, 1, 11, 10]⟩, ⟨(some 32), (.some (21, true)), (.callV (.t 22) [(.t 26), (.t 31)]), 14, [4, 3, 2, 0, 1, 8, 7, 5, 6, 13, 12, 9, 11, 10]⟩, ⟨(some 33), (.some (21, true)), (.bin .lss (.t 32) (.c (.int .i64 0))), 15, [14, 4, 3, 2, 0, 1, 8, 7, 5, 6, 13, 12, 9, 11, 10]⟩, ⟨(some 34), .none, (.pick (.t 21) (.t 33) (.c (.bool false))), 16, [3, 2, 0, 1, 15, 14, 4, 8, 7, 5, 6, 13, 12, 9, 11, 10]⟩]) (.cond (.t 34) .skip (.exit 2))) (.seq (.block 3 (.reg true [⟨(some 37), .none, (.mov (.t 0)), 0, []⟩, ⟨(some 38), .none, (.mov (.t 9)), 1, []⟩, ⟨(some 39), .none, (.mov (.t 0)), 2, []⟩, ⟨(some 40), .none, (.mov (.t 9)), 3, []⟩, ⟨(some 41), .none, (.bin .sub (.t 40) (.c (.int .i64 1))), 4, [3]⟩, ⟨(some 42), .none, (.mov (.t 0)), 5, []⟩, ⟨(some 43), .none, (.mov (.t 9)), 6, []⟩, ⟨(some 44), .none, (.bin .sub (.t 43) (.c (.int .i64 1))), 7, [6]⟩, ⟨(some 45), .none, (.iadr 3 (.t 42) (.t 44)), 8, [5, 7, 6]⟩, ⟨(some 46), .none, (.load 3 true (.t 45)), 9, [8, 5, 7, 6]⟩, ⟨(some 47), .none, (.mov (.t 0)), 10, []⟩, ⟨(some 48), .none, (.mov (.t 9)), 11, []⟩, ⟨(some 49), .none, (.iadr 3 (.t 47) (.t 48)), 12, [10, 11]⟩, ⟨(some 50), .none, (.load 3 true (.t 49)), 13, [12, 10, 11]⟩, ⟨(some 51), .none, (.iadr 3 (.t 37) (.t 38)), 14, [0, 1, 5, 6, 7, 8, 9, 13, 12, 10, 11]⟩, ⟨.none, .none, (.store 3 (.t 51) (.t 46)), 15, [14, 0, 1, 5, 6, 7, 8, 9, 13, 12, 10, 11]⟩, ⟨(some 52), .none, (.iadr 3 (.t 39) (.t 41)), 16, [2, 4, 3, 0, 1, 5, 6, 7, 8, 9, 10, 11, 12, 13, 14, 15]⟩, ⟨.none, .none, (.store 3 (.t 52) (.t 50)), 17, [16, 2, 4, 3, 0, 1, 5, 6, 7, 8, 9, 10, 11, 12, 13, 14, 15]⟩])) (.reg false [⟨(some 35), .none, (.mov (.t 9)), 0, []⟩, ⟨(some 36), .none, (.bin .sub (.t 35) (.c (.int .i64 1))), 1, []⟩, ⟨(some 9), .none, (.mov (.t 36)), 2, []⟩]))))))) (.reg false [⟨(some 15), .none, (.mov (.t 8)), 0, []⟩, ⟨(some 16), .none, (.bin .add (.t 15) (.c (.int .i64 1))), 1, []⟩, ⟨(some 8), .none, (.mov (.t 16)), 2, []⟩])))))), []⟩
theorem k98 : EE.fns 98 = some c98 := by kernel_rfl
def c101 : CF := ⟨63, (.seq (.reg false [⟨(some 8), .none, (.mov (.c (.int .i64 0))), 0, []⟩, ⟨(some 9), .none, (.mov (.c (.int .i64 0))), 1, []⟩]) (.seq (.reg false [⟨(some 15), .none, (.mov (.t 2)), 0, []⟩, ⟨(some 16), .none, (.mov (.t 1)), 1, []⟩, ⟨(some 17), .none, (.bin .sub (.t 15) (.t 16)), 2, []⟩, ⟨(some 10), .none, (.mov (.t 17)), 3, []⟩]) (.seq (.reg false [⟨(some 11), .none, (.newO [(.int .i64 0)]), 0, []⟩]) (.seq (.reg false [⟨(some 18), .none, (.mov (.t 1)), 0, []⟩, ⟨(some 19), .none, (.mov (.t 10)), 1, []⟩, ⟨(some 20), .none, (.bin .quo (.t 19) (.c (.int .i64 4))), 2, []⟩, ⟨(some 21), .none, (.bin .mul (.t 20) (.c (.int .i64 1))), 3, []⟩, ⟨(some 22), .none, (.bin .add (.t 18) (.t 21)), 4, []⟩, ⟨(some 12), .none, (.mov (.t 22)), 5, []⟩]) (.seq (.reg false [⟨(some 23), .none, (.mov (.t 1)), 0, []⟩, ⟨(some 24), .none, (.mov (.t 10)), 1, []⟩, ⟨(some 25), .none, (.bin .quo (.t 24) (.c (.int .i64 4))), 2, []⟩, ⟨(some 26), .none, (.bin .mul (.t 25) (.c (.int .i64 2))), 3, []⟩, ⟨(some 27), .none, (.bin .add (.t 23) (.t 26)), 4, []⟩, ⟨(some 13), .none, (.mov (.t 27)), 5, []⟩]) (.seq (.reg false [⟨(some 28), .none, (.mov (.t 1)), 0, []⟩, ⟨(some 29), .none, (.mov (.t 10)), 1, []⟩, ⟨(some 30), .none, (.bin .quo (.t 29) (.c (.int .i64 4))), 2, []⟩, ⟨(some 31), .none, (.bin .mul (.t 30) (.c (.int .i64 3))), 3, []⟩, ⟨(some 32), .none, (.bin .add (.t 28) (.t 31)), 4, []⟩, ⟨(some 14), .none, (.mov (.t 32)), 5, []⟩]) (.seq (.seq (.reg false [⟨(some 33), .none, (.mov (.t 10)), 0, []⟩, ⟨(some 34), .none, (.bin .geq (.t 33) (.c (.int .i64 8))), 1, []⟩]) (.cond (.t 34) (.seq (.seq (.reg false [⟨(some 35), .none, (.mov (.t 10)), 0, []⟩, ⟨(some 36), .none, (.bin .geq (.t 35) (.c (.int .i64 50))), 1, []⟩]) (.cond (.t 36) (.seq (.reg false [⟨(some 37), .none, (.mov (.t 0)), 0, []⟩, ⟨(some 38), .none, (.mov (.t 12)), 1, []⟩, ⟨(some 39), .none, (.mov (.t 3)), 2, []⟩, ⟨(some 40), .none, (.call 111 [(.t 37), (.t 38), (.t 11), (.t 39)]), 3, []⟩, ⟨(some 12), .none, (.mov (.t 40)), 4, []⟩]) (.seq (.reg false [⟨(some 41), .none, (.mov (.t 0)), 0, []⟩, ⟨(some 42), .none, (.mov (.t 13)), 1, []⟩, ⟨(some 43), .none, (.mov (.t 3)), 2, []⟩, ⟨(some 44), .none, (.call 111 [(.t 41), (.t 42), (.t 11), (.t 43)]), 3, []⟩, ⟨(some 13), .none, (.mov (.t 44)), 4, []⟩]) (.reg false [⟨(some 45), .none, (.mov (.t 0)), 0, []⟩, ⟨(some 46), .none, (.mov (.t 14)), 1, []⟩, ⟨(some 47), .none, (.mov (.t 3)), 2, []⟩, ⟨(some 48), .none, (.call 111 [(.t 45), (.t 46), (.t 11), (.t 47)]), 3, []⟩, ⟨(some 14), .none, (.mov (.t 48)), 4, []⟩]))) .skip)) (.reg false [⟨(some 49), .none, (.mov (.t 0)), 0, []⟩, ⟨(some 50), .none, (.mov (.t 12)), 1, []⟩, ⟨(some 51), .none, (.mov (.t 13)), 2, []⟩, ⟨(some 52), .none, (.mov (.t 14)), 3, []⟩, ⟨(some 53), .none, (.mov (.t 3)), 4, []⟩, ⟨(some 54), .none, (.call 112 [(.t 49), (.t 50), (.t 51), (.t 52), (.t 11), (.t 53)]), 5, []⟩, ⟨(some 13), .none, (.mov (.t 54)), 6, []⟩])) .skip)) (.seq (.reg false [⟨(some 55), .none, (.load 1 false (.t 11)), 0, []⟩]) (.block 0 (.seq (.reg false [⟨(some 58), .none, (.bin .eql (.t 55) (.c (.int .i64 0))), 0, []⟩, ⟨(some 57), .none, (.mov (.t 58)), 1, []⟩]) (.cond (.t 57) (.seq (.reg false [⟨(some 59), .none, (.mov (.t 13)), 0, []⟩, ⟨(some 8), .none, (.mov (.t 59)), 1, []⟩, ⟨(some 9), .none, (.mov (.c (.int .i64 1))), 2, []⟩]) .ret) (.seq (.reg false [⟨(some 61), .none, (.bin .eql (.t 55) (.c (.int .i64 12))), 0, []⟩, ⟨(some 60), .none, (.mov (.t 61)), 1, []⟩]) (.cond (.t 60) (.seq (.reg false [⟨(some 62), .none, (.mov (.t 13)), 0, []⟩, ⟨(some 8), .none, (.mov (.t 62)), 1, []⟩, ⟨(some 9), .none, (.mov (.c (.int .i64 2))), 2, []⟩]) .ret) (.seq (.reg false [⟨(some 56), .none, (.mov (.t 13)), 0, []⟩, ⟨(some 8), .none, (.mov (.t 56)), 1, []⟩, ⟨(some 9), .none, (.mov (.c (.int .i64 0))), 2, []⟩]) .ret)))))))))))))), [(.t 8), (.t 9)]⟩
theorem k101 : EE.fns 101 = some c101 := by kernel_rfl
def c103 : CF := ⟨141, (.seq (.reg false [⟨(some 8), .none, (.mov (.c (.bool false))), 0, []⟩]) (.seq (.reg false [⟨(some 13), .none, (.mov (.t 1)), 0, []⟩, ⟨(some 14), .none, (.bin .add (.t 13) (.c (.int .i64 1))), 1, []⟩, ⟨(some 9), .none, (.mov (.t 14)), 2, []⟩]) (.seq (.seq (.reg false [⟨(some 10), .none, (.mov (.c (.int .i64 0))), 0, []⟩]) (.block 0 (.loop (.seq (.seq (.reg false [⟨(some 15), .none, (.mov (.t 10)), 0, []⟩, ⟨(some 16), .none, (.bin .lss (.t 15) (.c (.int .i64 5))), 1, []⟩]) (.cond (.t 16) .skip (.exit 0))) (.seq (.block 1 (.seq (.block 2 (.loop (.seq (.seq (.reg true [⟨(some 19), .none, (.mov (.t 9)), 0, []⟩, ⟨(some 20), .none, (.mov (.t 2)), 1, []⟩, ⟨(some 21), .none, (.bin .lss (.t 19) (.t 20)), 2, [0, 1]⟩, ⟨(some 22), .none, (.mov (.t 21)), 3, [2, 0, 1]⟩, ⟨(some 23), (.some (22, true)), (.mov (.t 3)), 4, [3, 2, 0, 1]⟩, ⟨(some 24), (.some (22, true)), (.mov (.t 0)), 5, [3, 2, 0, 1]⟩, ⟨(some 25), (.some (22, true)), (.mov (.t 9)), 6, [3, 2, 0, 1]⟩, ⟨(some 26), (.some (22, true)), (.iadr 3 (.t 24) (.t 25)), 7, [5, 3, 2, 0, 1, 6]⟩, ⟨(some 27), (.some (22, true)), (.load 3 true (.t 26)), 8, [7, 5, 3, 2, 0, 1, 6]⟩, ⟨(some 28), (.some (22, true)), (.mov (.t 0)), 9, [3, 2, 0, 1]⟩, ⟨(some 29), (.some (22, true)), (.mov (.t 9)), 10, [3, 2, 0, 1]⟩, ⟨(some 30), (.some (22, true)), (.bin .sub (.t 29) (.c (.int .i64 1))), 11, [10, 3, 2, 0, 1]⟩, ⟨(some 31), (.some (22, true)), (.iadr 3 (.t 28) (.t 30)), 12, [9, 3, 2, 0, 1, 11, 10]⟩, ⟨(some 32), (.some (22, true)), (.load 3 true (.t 31)), 13, [12, 9, 3, 2, 0, 1, 11, 10]⟩, ⟨(some 33), (.some (22, true)), (.callV (.t 23) [(.t 27), (.t 32)]), 14, [4, 3, 2, 0, 1, 8, 7, 5, 6, 13, 12, 9, 11, 10]⟩, ⟨(some 34), (.some (22, true)), (.bin .lss (.t 33) (.c (.int .i64 0))), 15, [14, 4, 3, 2, 0, 1, 8, 7, 5, 6, 13, 12, 9, 11, 10]⟩, ⟨(some 35), (.some (22, true)), (.un .not (.t 34)), 16, [15, 14, 4, 3, 2, 0, 1, 8, 7, 5, 6, 13, 12, 9, 11, 10]⟩, ⟨(some 36), .none, (.pick (.t 22) (.t 35) (.c (.bool false))), 17, [3, 2, 0, 1, 16, 15, 14, 4, 8, 7, 5, 6, 13, 12, 9, 11, 10]⟩]) (.cond (.t 36) .skip (.exit 2))) (.block 3 (.reg false [⟨(some 37), .none, (.mov (.t 9)), 0, []⟩, ⟨(some 38), .none, (.bin .add (.t 37) (.c (.int .i64 1))), 1, []⟩, ⟨(some 9), .none, (.mov (.t 38)), 2, []⟩]))))) (.seq (.seq (.reg false [⟨(some 39), .none, (.mov (.t 9)), 0, []⟩, ⟨(some 40), .none, (.mov (.t 2)), 1, []⟩, ⟨(some 41), .none, (.bin .eql (.t 39) (.t 40)), 2, []⟩]) (.cond (.t 41) (.seq (.reg false [⟨(some 8), .none, (.mov (.c (.bool true))), 0, []⟩]) .ret) .skip)) (.seq (.seq (.reg false [⟨(some 42), .none, (.mov (.t 2)), 0, []⟩, ⟨(some 43), .none, (.mov (.t 1)), 1, []⟩, ⟨(some 44), .none, (.bin .sub (.t 42) (.t 43)), 2, []⟩, ⟨(some 45), .none, (.bin .lss (.t 44) (.c (.int .i64 50))), 3, []⟩]) (.cond (.t 45) (.seq (.reg false [⟨(some 8), .none, (.mov (.c (.bool false))), 0, []⟩]) .ret) .skip)) (.seq (.reg true [⟨(some 46), .none, (.mov (.t 0)), 0, []⟩, ⟨(some 47), .none, (.mov (.t 9)), 1, []⟩, ⟨(some 48), .none, (.mov (.t 0)), 2, []⟩, ⟨(some 49), .none, (.mov (.t 9)), 3, []⟩, ⟨(some 50), .none, (.bin .sub (.t 49) (.c (.int .i64 1))), 4, [3]⟩, ⟨(some 51), .none, (.mov (.t 0)), 5, []⟩, ⟨(some 52), .none, (.mov (.t 9)), 6, []⟩, ⟨(some 53), .none, (.bin .sub (.t 52) (.c (.int .i64 1))), 7, [6]⟩, ⟨(some 54), .none, (.iadr 3 (.t 51) (.t 53)), 8, [5, 7, 6]⟩, ⟨(some 55), .none, (.load 3 true (.t 54)), 9, [8, 5, 7, 6]⟩, ⟨(some 56), .none, (.mov (.t 0)), 10, []⟩, ⟨(some 57), .none, (.mov (.t 9)), 11, []⟩, ⟨(some 58), .none, (.iadr 3 (.t 56) (.t 57)), 12, [10, 11]⟩, ⟨(some 59), .none, (.load 3 true (.t 58)), 13, [12, 10, 11]⟩, ⟨(some 60), .none, (.iadr 3 (.t 46) (.t 47)), 14, [0, 1, 5, 6, 7, 8, 9, 13, 12, 10, 11]⟩, ⟨.none, .none, (.store 3 (.t 60) (.t 55)), 15, [14, 0, 1, 5, 6, 7, 8, 9, 13, 12, 10, 11]⟩, ⟨(some 61), .none, (.iadr 3 (.t 48) (.t 50)), 16, [2, 4, 3, 0, 1, 5, 6, 7, 8, 9, 10, 11, 12, 13, 14, 15]⟩, ⟨.none, .none, (.store 3 (.t 61) (.t 59)), 17, [16, 2, 4, 3, 0, 1, 5, 6, 7, 8, 9, 10, 11, 12, 13, 14, 15]⟩]) (.seq (.seq (.reg false [⟨(some 62), .none, (.mov (.t 9)), 0, []⟩, ⟨(some 63), .none, (.mov (.t 1)), 1, []⟩, ⟨(some 64), .none, (.bin .sub (.t 62) (.t 63)), 2, []⟩, ⟨(some 65), .none, (.bin .geq (.t 64) (.c (.int .i64 2))), 3, []⟩]) (.cond (.t 65) (.seq (.reg false [⟨(some 66), .none, (.mov (.t 9)), 0, []⟩, ⟨(some 67), .none, (.bin .sub (.t 66) (.c (.int .i64 1))), 1, []⟩, ⟨(some 11), .none, (.mov (.t 67)), 2, []⟩]) (.block 4 (.loop (.seq (.seq (.reg false [⟨(some 68), .none, (.mov (.t 11)), 0, []⟩, ⟨(some 69), .none, (.bin .geq (.t 68) (.c (.int .i64 1))), 1, []⟩]) (.cond (.t 69) .skip (.exit 4))) (.seq (.block 5 (.seq (.seq (.reg true [⟨(some 72), .none, (.mov (.t 3)), 0, []⟩, ⟨(some 73), .none, (.mov (.t 0)), 1, []⟩, ⟨(some 74), .none, (.mov (.t 11)), 2, []⟩, ⟨(some 75), .none, (.iadr 3 (.t 73) (.t 74)), 3, [1, 2]⟩, ⟨(some 76), .none, (.load 3 true (.t 75)), 4, [3, 1, 2]⟩, ⟨(some 77), .none, (.mov (.t 0)), 5, []⟩, ⟨(some 78), .none, (.mov (.t 11)), 6, []⟩, ⟨(some 79), .none, (.bin .sub (.t 78) (.c (.int .i64 1))), 7, [6]⟩, ⟨(some 80), .none, (.iadr 3 (.t 77) (.t 79)), 8, [5, 7, 6]⟩, ⟨(some 81), .none, (.load 3 true (.t 80)), 9, [8, 5, 7, 6]⟩, ⟨(some 82), .none, (.callV (.t 72) [(.t 76), (.t 81)]), 10, [0, 4, 3, 1, 2, 9, 8, 5, 7, 6]⟩, ⟨(some 83), .none, (.bin .lss (.t 82) (.c (.int .i64 0))), 11, [10, 0, 4, 3, 1, 2, 9, 8, 5, 7, 6]⟩, ⟨(some 84), .none, (.un .not (.t 83)), 12, [11, 10, 0, 4, 3, 1, 2, 9, 8, 5, 7, 6]⟩]) (.cond (.t 84) (.exit 4) .skip)) (.reg true [⟨(some 85), .none, (.mov (.t 0)), 0, []⟩, ⟨(some 86), .none, (.mov (.t 11)), 1, []⟩, ⟨(some 87), .none, (.mov (.t 0)), 2, []⟩, ⟨(some 88), .none, (.mov (.t 11)), 3, []⟩, ⟨(some 89), .none, (.bin .sub (.t 88) (.c (.int .i64 1))), 4, [3]⟩, ⟨(some 90), .none, (.mov (.t 0)), 5, []⟩, ⟨(some 91), .none, (.mov (.t 11)), 6, []⟩, ⟨(some 92), .none, (.bin .sub (.t 91) (.c (.int .i64 1))), 7, [6]⟩, ⟨(some 93), .none, (.iadr 3 (.t 90) (.t 92)), 8, [5, 7, 6]⟩, ⟨(some 94), .none, (.load 3 true (.t 93)), 9, [8, 5, 7, 6]⟩, ⟨(some 95), .none, (.mov (.t 0)), 10, []⟩, ⟨(some 96), .none, (.mov (.t 11)), 11, []⟩, ⟨(some 97), .none, (.iadr 3 (.t 95) (.t 96)), 12, [10, 11]⟩, ⟨(some 98), .none, (.load 3 true (.t 97)), 13, [12, 10, 11]⟩, ⟨(some 99), .none, (.iadr 3 (.t 85) (.t 86)), 14, [0, 1, 5, 6, 7, 8, 9, 13, 12, 10, 11]⟩, ⟨.none, .none, (.store 3 (.t 99) (.t 94)), 15, [14, 0, 1, 5, 6, 7, 8, 9, 13, 12, 10, 11]⟩, ⟨(some 100), .none, (.iadr 3 (.t 87) (.t 89)), 16, [2, 4, 3, 0, 1, 5, 6, 7, 8, 9, 10, 11, 12, 13, 14, 15]⟩, ⟨.none, .none, (.store 3 (.t 100) (.t 98)), 17, [16, 2, 4, 3, 0, 1, 5, 6, 7, 8, 9, 10, 11, 12, 13, 14, 15]⟩]))) (.reg false [⟨(some 70), .none, (.mov (.t 11)), 0, []⟩, ⟨(some 71), .none, (.bin .sub (.t 70) (.c (.int .i64 1))), 1, []⟩, ⟨(some 11), .none, (.mov (.t 71)), 2, []⟩])))))) .skip)) (.seq (.reg false [⟨(some 101), .none, (.mov (.t 2)), 0, []⟩, ⟨(some 102), .none, (.mov (.t 9)), 1, []⟩, ⟨(some 103), .none, (.bin .sub (.t 101) (.t 102)), 2, []⟩, ⟨(some 104), .none, (.bin .geq (.t 103) (.c (.int .i64 2))), 3, []⟩]) (.cond (.t 104) (.seq (.reg false [⟨(some 105), .none, (.mov (.t 9)), 0, []⟩, ⟨(some 106), .none, (.bin .add (.t 105) (.c (.int .i64 1))), 1, []⟩, ⟨(some 12), .none, (.mov (.t 106)), 2, []⟩]) (.block 6 (.loop (.seq (.seq (.reg false [⟨(some 107), .none, (.mov (.t 12)), 0, []⟩, ⟨(some 108), .none, (.mov (.t 2)), 1, []⟩, ⟨(some 109), .none, (.bin .lss (.t 107) (.t 108)), 2, []⟩]) (.cond (.t 109) .skip (.exit 6))) (.seq (.block 7 (.seq (.seq (.reg true [⟨(some 112), .none, (.mov (.t 3)), 0, []⟩, ⟨(some 113), .none, (.mov (.t 0)), 1, []⟩, ⟨(some 114), .none, (.mov (.t 12)), 2, []⟩, ⟨(some 115), .none, (.iadr 3 (.t 113) (.t 114)), 3, [1, 2]⟩, ⟨(some 116), .none, (.load 3 true (.t 115)), 4, [3, 1, 2]⟩, ⟨(some 117), .none, (.mov (.t 0)), 5, []⟩, ⟨(some 118), .none, (.mov (.t 12)), 6, []⟩, ⟨(some 119), .none, (.bin .sub (.t 118) (.c (.int .i64 1))), 7, [6]⟩, ⟨(some 120), .none, (.iadr 3 (.t 117) (.t 119)), 8, [5, 7, 6]⟩, ⟨(some 121), .none, (.load 3 true (.t 120)), 9, [8, 5, 7, 6]⟩, ⟨(some 122), .none, (.callV (.t 112) [(.t 116), (.t 121)]), 10, [0, 4, 3, 1, 2, 9, 8, 5, 7, 6]⟩, ⟨(some 123), .none, (.bin .lss (.t 122) (.c (.int .i64 0))), 11, [10, 0, 4, 3, 1, 2, 9, 8, 5, 7, 6]⟩, ⟨(some 124), .none, (.un .not (.t 123)), 12, [11, 10, 0, 4, 3, 1, 2, 9, 8, 5, 7, 6]⟩]) (.cond (.t 124) (.exit 6) .skip)) (.reg true [⟨(some 125), .none, (.mov (.t 0)), 0, []⟩, ⟨(some 126), .none, (.mov (.t 12)), 1, []⟩, ⟨(some 127), .none, (.mov (.t 0)), 2, []⟩, ⟨(some 128), .none, (.mov (.t 12)), 3, []⟩, ⟨(some 129), .none, (.bin .sub (.t 128) (.c (.int .i64 1))), 4, [3]⟩, ⟨(some 130), .none, (.mov (.t 0)), 5, []⟩, ⟨(some 131), .none, (.mov (.t 12)), 6, []⟩, ⟨(some 132), .none, (.bin .sub (.t 131) (.c (.int .i64 1))), 7, [6]⟩, ⟨(some 133), .none, (.iadr 3 (.t 130) (.t 132)), 8, [5, 7, 6]⟩, ⟨(some 134), .none, (.load 3 true (.t 133)), 9, [8, 5, 7, 6]⟩, ⟨(some 135), .none, (.mov (.t 0)), 10, []⟩, ⟨(some 136), .none, (.mov (.t 12)), 11, []⟩, ⟨(some 137), .none, (.iadr 3 (.t 135) (.t 136)), 12, [10, 11]⟩, ⟨(some 138), .none, (.load 3 true (.t 137)), 13, [12, 10, 11]⟩, ⟨(some 139), .none, (.iadr 3 (.t 125) (.t 126)), 14, [0, 1, 5, 6, 7, 8, 9, 13, 12, 10, 11]⟩, ⟨.none, .none, (.store 3 (.t 139) (.t 134)), 15, [14, 0, 1, 5, 6, 7, 8, 9, 13, 12, 10, 11]⟩, ⟨(some 140), .none, (.iadr 3 (.t 127) (.t 129)), 16, [2, 4, 3, 0, 1, 5, 6, 7, 8, 9, 10, 11, 12, 13, 14, 15]⟩, ⟨.none, .none, (.store 3 (.t 140) (.t 138)), 17, [16, 2, 4, 3, 0, 1, 5, 6, 7, 8, 9, 10, 11, 12, 13, 14, 15]⟩]))) (.reg false [⟨(some 110), .none, (.mov (.t 12)), 0, []⟩, ⟨(some 111), .none, (.bin .add (.t 110) (.c (.int .i64 1))), 1, []⟩, ⟨(some 12), .none, (.mov (.t 111)), 2, []⟩])))))) .skip)))))))) (.reg false [⟨(some 17), .none, (.mov (.t 10)), 0, []⟩, ⟨(some 18), .none, (.bin .add (.t 17) (.c (.int .i64 1))), 1, []⟩, ⟨(some 10), .none, (.mov (.t 18)), 2, []⟩])))))) (.seq (.reg false [⟨(some 8), .none, (.mov (.c (.bool false))), 0, []⟩]) .ret)))), [(.t 8)]⟩
theorem k103 : EE.fns 103 = some c103 := by kernel_rfl
def c105 : CF := ⟨178, (.seq (.reg false [⟨(some 10), .none, (.mov (.c (.int .i64 0))), 0, []⟩, ⟨(some 11), .none, (.mov (.c (.bool false))), 1, []⟩]) (.seq (.reg true [⟨(some 14), .none, (.mov (.t 0)), 0, []⟩, ⟨(some 15), .none, (.mov (.t 1)), 1, []⟩, ⟨(some 16), .none, (.mov (.t 0)), 2, []⟩, ⟨(some 17), .none, (.mov (.t 3)), 3, []⟩, ⟨(some 18), .none, (.mov (.t 0)), 4, []⟩, ⟨(some 19), .none, (.mov (.t 3)), 5, []⟩, ⟨(some 20), .none, (.iadr 3 (.t 18) (.t 19)), 6, [4, 5]⟩, ⟨(some 21), .none, (.load 3 true (.t 20)), 7, [6, 4, 5]⟩, ⟨(some 22), .none, (.mov (.t 0)), 8, []⟩, ⟨(some 23), .none, (.mov (.t 1)), 9, []⟩, ⟨(some 24), .none, (.iadr 3 (.t 22) (.t 23)), 10, [8, 9]⟩, ⟨(some 25), .none, (.load 3 true (.t 24)), 11, [10, 8, 9]⟩, ⟨(some 26), .none, (.iadr 3 (.t 14) (.t 15)), 12, [0, 1, 4, 5, 6, 7, 11, 10, 8, 9]⟩, ⟨.none, .none, (.store 3 (.t 26) (.t 21)), 13, [12, 0, 1, 4, 5, 6, 7, 11, 10, 8, 9]⟩, ⟨(some 27), .none, (.iadr 3 (.t 16) (.t 17)), 14, [2, 3, 0, 1, 4, 5, 6, 7, 8, 9, 10, 11, 12, 13]⟩, ⟨.none, .none, (.store 3 (.t 27) (.t 25)), 15, [14, 2, 3, 0, 1, 4, 5, 6, 7, 8, 9, 10, 11, 12, 13]⟩]) (.seq (.reg false [⟨(some 28), .none, (.mov (.t 1)), 0, []⟩, ⟨(some 29), .none, (.bin .add (.t 28) (.c (.int .i64 1))), 1, []⟩, ⟨(some 30), .none, (.mov (.t 2)), 2, []⟩, ⟨(some 31), .none, (.bin .sub (.t 30) (.c (.int .i64 1))), 3, []⟩, ⟨(some 12), .none, (.mov (.t 29)), 4, []⟩, ⟨(some 13), .none, (.mov (.t 31)), 5, []⟩]) (.seq (.block 0 (.loop (.seq (.seq (.reg true [⟨(some 32), .none, (.mov (.t 12)), 0, []⟩, ⟨(some 33), .none, (.mov (.t 13)), 1, []⟩, ⟨(some 34), .none, (.bin .leq (.t 32) (.t 33)), 2, [0, 1]⟩, ⟨(some 35), .none, (.mov (.t 34)), 3, [2, 0, 1]⟩, ⟨(some 36), (.some (35, true)), (.mov (.t 4)), 4, [3, 2, 0, 1]⟩, ⟨(some 37), (.some (35, true)), (.mov (.t 0)), 5, [3, 2, 0, 1]⟩, ⟨(some 38), (.some (35, true)), (.mov (.t 12)), 6, [3, 2, 0, 1]⟩, ⟨(some 39), (.some (35, true)), (.iadr 3 (.t 37) (.t 38)), 7, [5, 3, 2, 0, 1, 6]⟩, ⟨(some 40), (.some (35, true)), (.load 3 true (.t 39)), 8, [7, 5, 3, 2, 0, 1, 6]⟩, ⟨(some 41), (.some (35, true)), (.mov (.t 0)), 9, [3, 2, 0, 1]⟩, ⟨(some 42), (.some (35, true)), (.mov (.t 1)), 10, [3, 2, 0, 1]⟩, ⟨(some 43), (.some (35, true)), (.iadr 3 (.t 41) (.t 42)), 11, [9, 3, 2, 0, 1, 10]⟩, ⟨(some 44), (.some (35, true)), (.load 3 true (.t 43)), 12, [11, 9, 3, 2, 0, 1, 10]⟩, ⟨(some 45), (.some (35, true)), (.callV (.t 36) [(.t 40), (.t 44)]), 13, [4, 3, 2, 0, 1, 8, 7, 5, 6, 12, 11, 9, 10]⟩, ⟨(some 46), (.some (35, true)), (.bin .lss (.t 45) (.c (.int .i64 0))), 14, [13, 4, 3, 2, 0, 1, 8, 7, 5, 6, 12, 11, 9, 10]⟩, ⟨(some 47), .none, (.pick (.t 35) (.t 46) (.c (.bool false))), 15, [3, 2, 0, 1, 14, 13, 4, 8, 7, 5, 6, 12, 11, 9, 10]⟩]) (.cond (.t 47) .skip (.exit 0))) (.block 1 (.reg false [⟨(some 48), .none, (.mov (.t 12)), 0, []⟩, ⟨(some 49), .none, (.bin .add (.t 48) (.c (.int .i64 1))), 1, []⟩, ⟨(some 12), .none, (.mov (.t 49)), 2, []⟩]))))) (.seq (.block 2 (.loop (.seq (.seq (.reg true [⟨(some 50), .none, (.mov (.t 12)), 0, []⟩, ⟨(some 51), .none, (.mov (.t 13)), 1, []⟩, ⟨(some 52), .none, (.bin .leq (.t 50) (.t 51)), 2, [0, 1]⟩, ⟨(some 53), .none, (.mov (.t 52)), 3, [2, 0, 1]⟩, ⟨(some 54), (.some (53, true)), (.mov (.t 4)), 4, [3, 2, 0, 1]⟩, ⟨(some 55), (.some (53, true)), (.mov (.t 0)), 5, [3, 2, 0, 1]⟩, ⟨(some 56), (.some (53, true)), (.mov (.t 13)), 6, [3, 2, 0, 1]⟩, ⟨(some 57), (.some (53, true)), (.iadr 3 (.t 55) (.t 56)), 7, [5, 3, 2, 0, 1, 6]⟩, ⟨(some 58), (.some (53, true)), (.load 3 true (.t 57)), 8, [7, 5, 3, 2, 0, 1, 6]⟩, ⟨(some 59), (.some (53, true)), (.mov (.t 0)), 9, [3, 2, 0, 1]⟩, ⟨(some 60), (.some (53, true)), (.mov (.t 1)), 10, [3, 2, 0, 1]⟩, ⟨(some 61), (.some (53, true)), (.iadr 3 (.t 59) (.t 60)), 11, [9, 3, 2, 0, 1, 10]⟩, ⟨(some 62), (.some (53, true)), (.load 3 true (.t 61)), 12, [11, 9, 3, 2, 0, 1, 10]⟩, ⟨(some 63), (.some (53, true)), (.callV (.t 54) [(.t 58), (.t 62)]), 13, [4, 3, 2, 0, 1, 8, 7, 5, 6, 12, 11, 9, 10]⟩, ⟨(some 64), (.some (53, true)), (.bin .lss (.t 63) (.c (.int .i64 0))), 14, [13, 4, 3, 2, 0, 1, 8, 7, 5, 6, 12, 11, 9, 10]⟩, ⟨(some 65), (.some (53, true)), (.un .not (.t 64)), 15, [14, 13, 4, 3, 2, 0, 1, 8, 7, 5, 6, 12, 11, 9, 10]⟩, ⟨(some 66), .none, (.pick (.t 53) (.t 65) (.c (.bool false))), 16, [3, 2, 0, 1, 15, 14, 13, 4, 8, 7, 5, 6, 12, 11, 9, 10]⟩]) (.cond (.t 66) .skip (.exit 2))) (.block 3 (.reg false [⟨(some 67), .none, (.mov (.t 13)), 0, []⟩, ⟨(some 68), .none, (.bin .sub (.t 67) (.c (.int .i64 1))), 1, []⟩, ⟨(some 13), .none, (.mov (.t 68)), 2, []⟩]))))) (.seq (.seq (.reg false [⟨(some 69), .none, (.mov (.t 12)), 0, []⟩, ⟨(some 70), .none, (.mov (.t 13)), 1, []⟩, ⟨(some 71), .none, (.bin .gtr (.t 69) (.t 70)), 2, []⟩]) (.cond (.t 71) (.seq (.reg true [⟨(some 72), .none, (.mov (.t 0)), 0, []⟩, ⟨(some 73), .none, (.mov (.t 13)), 1, []⟩, ⟨(some 74), .none, (.mov (.t 0)), 2, []⟩, ⟨(some 75), .none, (.mov (.t 1)), 3, []⟩, ⟨(some 76), .none, (.mov (.t 0)), 4, []⟩, ⟨(some 77), .none, (.mov (.t 1)), 5, []⟩, ⟨(some 78), .none, (.iadr 3 (.t 76) (.t 77)), 6, [4, 5]⟩, ⟨(some 79), .none, (.load 3 true (.t 78)), 7, [6, 4, 5]⟩, ⟨(some 80), .none, (.mov (.t 0)), 8, []⟩, ⟨(some 81), .none, (.mov (.t 13)), 9, []⟩, ⟨(some 82), .none, (.iadr 3 (.t 80) (.t 81)), 10, [8, 9]⟩, ⟨(some 83), .none, (.load 3 true (.t 82)), 11, [10, 8, 9]⟩, ⟨(some 84), .none, (.iadr 3 (.t 72) (.t 73)), 12, [0, 1, 4, 5, 6, 7, 11, 10, 8, 9]⟩, ⟨.none, .none, (.store 3 (.t 84) (.t 79)), 13, [12, 0, 1, 4, 5, 6, 7, 11, 10, 8, 9]⟩, ⟨(some 85), .none, (.iadr 3 (.t 74) (.t 75)), 14, [2, 3, 0, 1, 4, 5, 6, 7, 8, 9, 10, 11, 12, 13]⟩, ⟨.none, .none, (.store 3 (.t 85) (.t 83)), 15, [14, 2, 3, 0, 1, 4, 5, 6, 7, 8, 9, 10, 11, 12, 13]⟩]) (.seq (.reg false [⟨(some 86), .none, (.mov (.t 13)), 0, []⟩, ⟨(some 10), .none, (.mov (.t 86)), 1, []⟩, ⟨(some 11), .none, (.mov (.c (.bool true))), 2, []⟩]) .ret)) .skip)) (.seq (.reg true [⟨(some 87), .none, (.mov (.t 0)), 0, []⟩, ⟨(some 88), .none, (.mov (.t 12)), 1, []⟩, ⟨(some 89), .none, (.mov (.t 0)), 2, []⟩, ⟨(some 90), .none, (.mov (.t 13)), 3, []⟩, ⟨(some 91), .none, (.mov (.t 0)), 4, []⟩, ⟨(some 92), .none, (.mov (.t 13)), 5, []⟩, ⟨(some 93), .none, (.iadr 3 (.t 91) (.t 92)), 6, [4, 5]⟩, ⟨(some 94), .none, (.load 3 true (.t 93)), 7, [6, 4, 5]⟩, ⟨(some 95), .none, (.mov (.t 0)), 8, []⟩, ⟨(some 96), .none, (.mov (.t 12)), 9, []⟩, ⟨(some 97), .none, (.iadr 3 (.t 95) (.t 96)), 10, [8, 9]⟩, ⟨(some 98), .none, (.load 3 true (.t 97)), 11, [10, 8, 9]⟩, ⟨(some 99), .none, (.iadr 3 (.t 87) (.t 88)), 12, [0, 1, 4, 5, 6, 7, 11, 10, 8, 9]⟩, ⟨.none, .none, (.store 3 (.t 99) (.t 94)), 13, [12, 0, 1, 4, 5, 6, 7, 11, 10, 8, 9]⟩, ⟨(some 100), .none, (.iadr 3 (.t 89) (.t 90)), 14, [2, 3, 0, 1, 4, 5, 6, 7, 8, 9, 10, 11, 12, 13]⟩, ⟨.none, .none, (.store 3 (.t 100) (.t 98)), 15, [14, 2, 3, 0, 1, 4, 5, 6, 7, 8, 9, 10, 11, 12, 13]⟩]) (.seq (.reg false [⟨(some 101), .none, (.mov (.t 12)), 0, []⟩, ⟨(some 102), .none, (.bin .add (.t 101) (.c (.int .i64 1))), 1, []⟩, ⟨(some 12), .none, (.mov (.t 102)), 2, []⟩]) (.seq (.reg false [⟨(some 103), .none, (.mov (.t 13)), 0, []⟩, ⟨(some 104), .none, (.bin .sub (.t 103) (.c (.int .i64 1))), 1, []⟩, ⟨(some 13), .none, (.mov (.t 104)), 2, []⟩]) (.seq (.block 4 (.loop (.block 5 (.seq (.block 6 (.loop (.seq (.seq (.reg true [⟨(some 105), .none, (.mov (.t 12)), 0, []⟩, ⟨(some 106), .none, (.mov (.t 13)), 1, []⟩, ⟨(some 107), .none, (.bin .leq (.t 105) (.t 106)), 2, [0, 1]⟩, ⟨(some 108), .none, (.mov (.t 107)), 3, [2, 0, 1]⟩, ⟨(some 109), (.some (108, true)), (.mov (.t 4)), 4, [3, 2, 0, 1]⟩, ⟨(some 110), (.some (108, true)), (.mov (.t 0)), 5, [3, 2, 0, 1]⟩, ⟨(some 111), (.some (108, true)), (.mov (.t 12)), 6, [3, 2, 0, 1]⟩, ⟨(some 112), (.some (108, true)), (.iadr 3 (.t 110) (.t 111)), 7, [5, 3, 2, 0, 1, 6]⟩, ⟨(some 113), (.some (108, true)), (.load 3 true (.t 112)), 8, [7, 5, 3, 2, 0, 1, 6]⟩, ⟨(some 114), (.some (108, true)), (.mov (.t 0)), 9, [3, 2, 0, 1]⟩, ⟨(some 115), (.some (108, true)), (.mov (.t 1)), 10, [3, 2, 0, 1]⟩, ⟨(some 116), (.some (108, true)), (.iadr 3 (.t 114) (.t 115)), 11, [9, 3, 2, 0, 1, 10]⟩, ⟨(some 117), (.some (108, true)), (.load 3 true (.t 116)), 12, [11, 9, 3, 2, 0, 1, 10]⟩, ⟨(some 118), (.some (108, true)), (.callV (.t 109) [(.t 113), (.t 117)]), 13, [4, 3, 2, 0, 1, 8, 7, 5, 6, 12, 11, 9, 10]⟩, ⟨(some 119), (.some (108, true)), (.bin .lss (.t 118) (.c (.int .i64 0))), 14, [13, 4, 3, 2, 0, 1, 8, 7, 5, 6, 12, 11, 9, 10]⟩, ⟨(some 120), .none, (.pick (.t 108) (.t 119) (.c (.bool false))), 15, [3, 2, 0, 1, 14, 13, 4, 8, 7, 5, 6, 12, 11, 9, 10]⟩]) (.cond (.t 120) .skip (.exit 6))) (.block 7 (.reg false [⟨(some 121), .none, (.mov (.t 12)), 0, []⟩, ⟨(some 122), .none, (.bin .add (.t 121) (.c (.int .i64 1))), 1, []⟩, ⟨(some 12), .none, (.mov (.t 122)), 2, []⟩]))))) (.seq (.block 8 (.loop (.seq (.seq (.reg true [⟨(some 123), .none, (.mov (.t 12)), 0, []⟩, ⟨(some 124), .none, (.mov (.t 13)), 1, []⟩, ⟨(some 125), .none, (.bin .leq (.t 123) (.t 124)), 2, [0, 1]⟩, ⟨(some 126), .none, (.mov (.t 125)), 3, [2, 0, 1]⟩, ⟨(some 127), (.some (126, true)), (.mov (.t 4)), 4, [3, 2, 0, 1]⟩, ⟨(some 128), (.some (126, true)), (.mov (.t 0)), 5, [3, 2, 0, 1]⟩, ⟨(some 129), (.some (126, true)), (.mov (.t 13)), 6, [3, 2, 0, 1]⟩, ⟨(some 130), (.some (126, true)), (.iadr 3 (.t 128) (.t 129)), 7, [5, 3, 2, 0, 1, 6]⟩, ⟨(some 131), (.some (126, true)), (.load 3 true (.t 130)), 8, [7, 5, 3, 2, 0, 1, 6]⟩, ⟨(some 132), (.some (126, true)), (.mov (.t 0)), 9, [3, 2, 0, 1]⟩, ⟨(some 133), (.some (126, true)), (.mov (.t 1)), 10, [3, 2, 0, 1]⟩, ⟨(some 134), (.some (126, true)), (.iadr 3 (.t 132) (.t 133)), 11, [9, 3, 2, 0, 1, 10]⟩, ⟨(some 135), (.some (126, true)), (.load 3 true (.t 134)), 12, [11, 9, 3, 2, 0, 1, 10]⟩, ⟨(some 136), (.some (126, true)), (.callV (.t 127) [(.t 131), (.t 135)]), 13, [4, 3, 2, 0, 1, 8, 7, 5, 6, 12, 11, 9, 10]⟩, ⟨(some 137), (.some (126, true)), (.bin .lss (.t 136) (.c (.int .i64 0))), 14, [13, 4, 3, 2, 0, 1, 8, 7, 5, 6, 12, 11, 9, 10]⟩, ⟨(some 138), (.some (126, true)), (.un .not (.t 137)), 15, [14, 13, 4, 3, 2, 0, 1, 8, 7, 5, 6, 12, 11, 9, 10]⟩, ⟨(some 139), .none, (.pick (.t 126) (.t 138) (.c (.bool false))), 16, [3, 2, 0, 1, 15, 14, 13, 4, 8, 7, 5, 6, 12, 11, 9, 10]⟩]) (.cond (.t 139) .skip (.exit 8))) (.block 9 (.reg false [⟨(some 140), .none, (.mov (.t 13)), 0, []⟩, ⟨(some 141), .none, (.bin .sub (.t 140) (.c (.int .i64 1))), 1, []⟩, ⟨(some 13), .none, (.mov (.t 141)), 2, []⟩]))))) (.seq (.seq (.reg false [⟨(some 142), .none, (.mov (.t 12)), 0, []⟩, ⟨(some 143), .none, (.mov (.t 13)), 1, []⟩, ⟨(some 144), .none, (.bin .gtr (.t 142) (.t 143)), 2, []⟩]) (.cond (.t 144) (.exit 4) .skip)) (.seq (.reg true [⟨(some 145), .none, (.mov (.t 0)), 0, []⟩, ⟨(some 146), .none, (.mov (.t 12)), 1, []⟩, ⟨(some 147), .none, (.mov (.t 0)), 2, []⟩, ⟨(some 148), .none, (.mov (.t 13)), 3, []⟩, ⟨(some 149), .none, (.mov (.t 0)), 4, []⟩, ⟨(some 150), .none, (.mov (.t 13)), 5, []⟩, ⟨(some 151), .none, (.iadr 3 (.t 149) (.t 150)), 6, [4, 5]⟩, ⟨(some 152), .none, (.load 3 true (.t 151)), 7, [6, 4, 5]⟩, ⟨(some 153), .none, (.mov (.t 0)), 8, []⟩, ⟨(some 154), .none, (.mov (.t 12)), 9, []⟩, ⟨(some 155), .none, (.iadr 3 (.t 153) (.t 154)), 10, [8, 9]⟩, ⟨(some 156), .none, (.load 3 true (.t 155)), 11, [10, 8, 9]⟩, ⟨(some 157), .none, (.iadr 3 (.t 145) (.t 146)), 12, [0, 1, 4, 5, 6, 7, 11, 10, 8, 9]⟩, ⟨.none, .none, (.store 3 (.t 157) (.t 152)), 13, [12, 0, 1, 4, 5, 6, 7, 11, 10, 8, 9]⟩, ⟨(some 158), .none, (.iadr 3 (.t 147) (.t 148)), 14, [2, 3, 0, 1, 4, 5, 6, 7, 8, 9, 10, 11, 12, 13]⟩, ⟨.none, .none, (.store 3 (.t 158) (.t 156)), 15, [14, 2, 3, 0, 1, 4, 5, 6, 7, 8, 9, 10, 11, 12, 13]⟩]) (.seq (.reg false [⟨(some 159), .none, (.mov (.t 12)), 0, []⟩, ⟨(some 160), .none, (.bin .add (.t 159) (.c (.int .i64 1))), 1, []⟩, ⟨(some 12), .none, (.mov (.t 160)), 2, []⟩]) (.reg false [⟨(some 161), .none, (.mov (.t 13)), 0, []⟩, ⟨(some 162), .none, (.bin .sub (.t 161) (.c (.int .i64 1))), 1, []⟩, ⟨(some 13), .none, (.mov (.t 162)), 2, []⟩]))))))))) (.seq (.reg true [⟨(some 163), .none, (.mov (.t 0)), 0, []⟩, ⟨(some 164), .none, (.mov (.t 13)), 1, []⟩, ⟨(some 165), .none, (.mov (.t 0)), 2, []⟩, ⟨(some 166), .none, (.mov (.t 1)), 3, []⟩, ⟨(some 167), .none, (.mov (.t 0)), 4, []⟩, ⟨(some 168), .none, (.mov (.t 1)), 5, []⟩, ⟨(some 169), .none, (.iadr 3 (.t 167) (.t 168)), 6, [4, 5]⟩, ⟨(some 170), .none, (.load 3 true (.t 169)), 7, [6, 4, 5]⟩, ⟨(some 171), .none, (.mov (.t 0)), 8, []⟩, ⟨(some 172), .none, (.mov (.t 13)), 9, []⟩, ⟨(some 173), .none, (.iadr 3 (.t 171) (.t 172)), 10, [8, 9]⟩, ⟨(some 174), .none, (.load 3 true (.t 173)), 11, [10, 8, 9]⟩, ⟨(some 175), .none, (.iadr 3 (.t 163) (.t 164)), 12, [0, 1, 4, 5, 6, 7, 11, 10, 8, 9]⟩, ⟨.none, .none, (.store 3 (.t 175) (.t 170)), 13, [12, 0, 1, 4, 5, 6, 7, 11, 10, 8, 9]⟩, ⟨(some 176), .none, (.iadr 3 (.t 165) (.t 166)), 14, [2, 3, 0, 1, 4, 5, 6, 7, 8, 9, 10, 11, 12, 13]⟩, ⟨.none, .none, (.store 3 (.t 176) (.t 174)), 15, [14, 2, 3, 0, 1, 4, 5, 6, 7, 8, 9, 10, 11, 12, 13]⟩]) (.seq (.reg false [⟨(some 177), .none, (.mov (.t 13)), 0, []⟩, ⟨(some 10), .none, (.mov (.t 177)), 1, []⟩, ⟨(some 11), .none, (.mov (.c (.bool false))), 2, []⟩]) .ret)))))))))))), [(.t 10), (.t 11)]⟩
theorem k105 : EE.fns 105 = some c105 := by kernel_rfl
def c107 : CF := ⟨25, (.seq (.reg false [⟨(some 2), .none, (.mov (.c (.int .i64 0))), 0, []⟩]) (.seq (.seq (.reg false [⟨(some 3), .none, (.mov (.t 0)), 0, []⟩, ⟨(some 4), .none, (.bin .geq (.t 3) (.c (.int .u64 4294967296))), 1, []⟩]) (.cond (.t 4) (.seq (.reg false [⟨(some 5), .none, (.mov (.t 0)), 0, []⟩, ⟨(some 6), .none, (.bin .shr (.t 5) (.c (.int .u64 32))), 1, []⟩, ⟨(some 0), .none, (.mov (.t 6)), 2, []⟩]) (.reg false [⟨(some 2), .none, (.mov (.c (.int .i64 32))), 0, []⟩])) .skip)) (.seq (.seq (.reg false [⟨(some 7), .none, (.mov (.t 0)), 0, []⟩, ⟨(some 8), .none, (.bin .geq (.t 7) (.c (.int .u64 65536))), 1, []⟩]) (.cond (.t 8) (.seq (.reg false [⟨(some 9), .none, (.mov (.t 0)), 0, []⟩, ⟨(some 10), .none, (.bin .shr (.t 9) (.c (.int .u64 16))), 1, []⟩, ⟨(some 0), .none, (.mov (.t 10)), 2, []⟩]) (.reg false [⟨(some 11), .none, (.mov (.t 2)), 0, []⟩, ⟨(some 12), .none, (.bin .add (.t 11) (.c (.int .i64 16))), 1, []⟩, ⟨(some 2), .none, (.mov (.t 12)), 2, []⟩])) .skip)) (.seq (.seq (.reg false [⟨(some 13), .none, (.mov (.t 0)), 0, []⟩, ⟨(some 14), .none, (.bin .geq (.t 13) (.c (.int .u64 256))), 1, []⟩]) (.cond (.t 14) (.seq (.reg false [⟨(some 15), .none, (.mov (.t 0)), 0, []⟩, ⟨(some 16), .none, (.bin .shr (.t 15) (.c (.int .u64 8))), 1, []⟩, ⟨(some 0), .none, (.mov (.t 16)), 2, []⟩]) (.reg false [⟨(some 17), .none, (.mov (.t 2)), 0, []⟩, ⟨(some 18), .none, (.bin .add (.t 17) (.c (.int .i64 8))), 1, []⟩, ⟨(some 2), .none, (.mov (.t 18)), 2, []⟩])) .skip)) (.seq (.reg false [⟨(some 19), .none, (.mov (.t 2)), 0, []⟩, ⟨(some 20), .none, (.mov (.t 0)), 1, []⟩, ⟨(some 21), .none, (.toInt .u8 (.t 20)), 2, []⟩, ⟨(some 22), .none, (.idx (.c (.string ⟨#[0, 1, 2, 2, 3, 3, 3, 3, 4, 4, 4, 4, 4, 4, 4, 4, 5, 5, 5, 5, 5, 5, 5, 5, 5, 5, 5, 5, 5, 5, 5, 5, 6, 6, 6, 6, 6, 6, 6, 6, 6, 6, 6, 6, 6, 6, 6, 6, 6, 6, 6, 6, 6, 6, 6, 6, 6, 6, 6, 6, 6, 6, 6, 6, 7, 7, 7, 7, 7, 7, 7, 7, 7, 7, 7, 7, 7, 7, 7, 7, 7, 7, 7, 7, 7, 7, 7, 7, 7, 7, 7, 7, 7, 7, 7, 7, 7, 7, 7, 7, 7, 7, 7, 7, 7, 7, 7, 7, 7, 7, 7, 7, 7, 7, 7, 7, 7, 7, 7, 7, 7, 7, 7, 7, 7, 7, 7, 7, 8, 8, 8, 8, 8, 8, 8, 8, 8, 8, 8, 8, 8, 8, 8, 8, 8, 8, 8, 8, 8, 8, 8, 8, 8, 8, 8, 8, 8, 8, 8, 8, 8, 8, 8, 8, 8, 8, 8, 8, 8, 8, 8, 8, 8, 8, 8, 8, 8, 8, 8, 8, 8, 8, 8, 8, 8, 8, 8, 8, 8, 8, 8, 8, 8, 8, 8, 8, 8, 8, 8, 8, 8, 8, 8, 8, 8, 8, 8, 8, 8, 8, 8, 8, 8, 8, 8, 8, 8, 8, 8, 8, 8, 8, 8, 8, 8, 8, 8, 8, 8, 8, 8, 8, 8, 8, 8, 8, 8, 8, 8, 8, 8, 8, 8, 8, 8, 8, 8, 8, 8, 8, 8, 8, 8, 8, 8, 8]⟩)) (.t 21)), 3, []⟩, ⟨(some 23), .none, (.toInt .i64 (.t 22)), 4, []⟩, ⟨(some 24), .none, (.bin .add (.t 19) (.t 23)), 5, []⟩, ⟨(some 2), .none, (.mov (.t 24)), 6, []⟩]) .ret))))), [(.t 2)]⟩
theorem k107 : EE.fns 107 = some c107 := by kernel_rfl
def c112 : CF := ⟨41, (.seq (.reg false [⟨(some 12), .none, (.mov (.c (.int .i64 0))), 0, []⟩]) (.seq (.reg false [⟨(some 14), .none, (.mov (.t 0)), 0, []⟩, ⟨(some 15), .none, (.mov (.t 1)), 1, []⟩, ⟨(some 16), .none, (.mov (.t 2)), 2, []⟩, ⟨(some 17), .none, (.mov (.t 4)), 3, []⟩, ⟨(some 18), .none, (.mov (.t 5)), 4, []⟩, ⟨(some 19), .none, (.call 113 [(.t 14), (.t 15), (.t 16), (.t 17), (.t 18)]), 5, []⟩, ⟨(some 13), .none, (.mov (.t 19)), 6, []⟩, ⟨(some 20), .none, (.ext (.t 13) 0), 7, []⟩, ⟨(some 21), .none, (.ext (.t 13) 1), 8, []⟩, ⟨(some 1), .none, (.mov (.t 20)), 9, []⟩, ⟨(some 2), .none, (.mov (.t 21)), 10, []⟩]) (.seq (.reg false [⟨(some 23), .none, (.mov (.t 0)), 0, []⟩, ⟨(some 24), .none, (.mov (.t 2)), 1, []⟩, ⟨(some 25), .none, (.mov (.t 3)), 2, []⟩, ⟨(some 26), .none, (.mov (.t 4)), 3, []⟩, ⟨(some 27), .none, (.mov (.t 5)), 4, []⟩, ⟨(some 28), .none, (.call 113 [(.t 23), (.t 24), (.t 25), (.t 26), (.t 27)]), 5, []⟩, ⟨(some 22), .none, (.mov (.t 28)), 6, []⟩, ⟨(some 29), .none, (.ext (.t 22) 0), 7, []⟩, ⟨(some 30), .none, (.ext (.t 22) 1), 8, []⟩, ⟨(some 2), .none, (.mov (.t 29)), 9, []⟩, ⟨(some 3), .none, (.mov (.t 30)), 10, []⟩]) (.seq (.reg false [⟨(some 32), .none, (.mov (.t 0)), 0, []⟩, ⟨(some 33), .none, (.mov (.t 1)), 1, []⟩, ⟨(some 34), .none, (.mov (.t 2)), 2, []⟩, ⟨(some 35), .none, (.mov (.t 4)), 3, []⟩, ⟨(some 36), .none, (.mov (.t 5)), 4, []⟩, ⟨(some 37), .none, (.call 113 [(.t 32), (.t 33), (.t 34), (.t 35), (.t 36)]), 5, []⟩, ⟨(some 31), .none, (.mov (.t 37)), 6, []⟩, ⟨(some 38), .none, (.ext (.t 31) 0), 7, []⟩, ⟨(some 39), .none, (.ext (.t 31) 1), 8, []⟩, ⟨(some 1), .none, (.mov (.t 38)), 9, []⟩, ⟨(some 2), .none, (.mov (.t 39)), 10, []⟩]) (.seq (.reg false [⟨(some 40), .none, (.mov (.t 2)), 0, []⟩, ⟨(some 12), .none, (.mov (.t 40)), 1, []⟩]) .ret))))), [(.t 12)]⟩
theorem k112 : EE.fns 112 = some c112 := by kernel_rfl
def c113 : CF := ⟨32, (.seq (.reg false [⟨(some 10), .none, (.mov (.c (.int .i64 0))), 0, []⟩, ⟨(some 11), .none, (.mov (.c (.int .i64 0))), 1, []⟩]) (.seq (.seq (.reg true [⟨(some 12), .none, (.mov (.t 4)), 0, []⟩, ⟨(some 13), .none, (.mov (.t 0)), 1, []⟩, ⟨(some 14), .none, (.mov (.t 2)), 2, []⟩, ⟨(some 15), .none, (.iadr 3 (.t 13) (.t 14)), 3, [1, 2]⟩, ⟨(some 16), .none, (.load 3 true (.t 15)), 4, [3, 1, 2]⟩, ⟨(some 17), .none, (.mov (.t 0)), 5, []⟩, ⟨(some 18), .none, (.mov (.t 1)), 6, []⟩, ⟨(some 19), .none, (.iadr 3 (.t 17) (.t 18)), 7, [5, 6]⟩, ⟨(some 20), .none, (.load 3 true (.t 19)), 8, [7, 5, 6]⟩, ⟨(some 21), .none, (.callV (.t 12) [(.t 16), (.t 20)]), 9, [0, 4, 3, 1, 2, 8, 7, 5, 6]⟩, ⟨(some 22), .none, (.bin .lss (.t 21) (.c (.int .i64 0))), 10, [9, 0, 4, 3, 1, 2, 8, 7, 5, 6]⟩]) (.cond (.t 22) (.seq (.reg false [⟨(some 23), .none, (.mov (.t 3)), 0, []⟩, ⟨(some 24), .none, (.nilc (.t 23)), 1, []⟩, ⟨(some 25), .none, (.load 1 false (.t 24)), 2, []⟩, ⟨(some 26), .none, (.bin .add (.t 25) (.c (.int .i64 1))), 3, []⟩, ⟨(some 27), .none, (.nilc (.t 23)), 4, []⟩, ⟨.none, .none, (.store 1 (.t 27) (.t 26)), 5, []⟩]) (.seq (.reg false [⟨(some 28), .none, (.mov (.t 2)), 0, []⟩, ⟨(some 29), .none, (.mov (.t 1)), 1, []⟩, ⟨(some 10), .none, (.mov (.t 28)), 2, []⟩, ⟨(some 11), .none, (.mov (.t 29)), 3, []⟩]) .ret)) .skip)) (.seq (.reg false [⟨(some 30), .none, (.mov (.t 1)), 0, []⟩, ⟨(some 31), .none, (.mov (.t 2)), 1, []⟩, ⟨(some 10), .none, (.mov (.t 30)), 2, []⟩, ⟨(some 11), .none, (.mov (.t 31)), 3, []⟩]) .ret))), [(.t 10), (.t 11)]⟩
theorem k113 : EE.fns 113 = some c113 := by kernel_rfl
end Go.Proofs.Ytjepmnmakemfoaa.Ev

/- A row more in a table: the program's way, its sort apart. -/
namespace Go.Proofs.Ytjepmnmakemfoaa.Ev
set_option linter.all false
open Go
set_option maxRecDepth 4000

theorem f69 {m : Md} {H : Hp} {v : Value} {l : List Rw} (hl : SlRw H v l) (hle : l.length ≤ 1048576) (hw : Wr m H) : Fun EE m 69 [v] H fun r H' => FreshS eRw 3 H r H' l := by
  refine fun_f rfl rfl k69 (by simp [c69]) ?_
  obtain ⟨v', H', h1, h2, h3, h4⟩ := hl.copy (m := m) (bytes := 24) (by unfold Ev.room; omega) (by unfold Ev.room; omega)
  simp only [go_sem, ↓reduceIte, Nat.reduceEqDiff, reduceCtorEq, Nat.reduceAdd, Nat.reduceLeDiff, Nat.reduceMul, c69]
  rw [h1]
  rotate_left
  · rfl
  · rfl
  · rfl
  simp only [go_sem, ↓reduceIte, Nat.reduceEqDiff, reduceCtorEq, Nat.reduceAdd, Nat.reduceLeDiff, Nat.reduceMul]
  exact ⟨h2, h3, h4⟩

/-- The last row of one. -/
def nowR (l : List Rw) (w : Int) : Rw := l.foldl (fun r z => if z.1 = w then z else r) (0, 0, 0)
def hasW (l : List Rw) (w : Int) : Bool := l.foldl (fun b z => if z.1 = w then true else b) false
theorem nowR_succ {l : List Rw} {w : Int} {i : Nat} (h : i < l.length) : nowR (l.take (i + 1)) w = (if l[i].1 = w then l[i] else nowR (l.take i) w) ∧ hasW (l.take (i + 1)) w = (if l[i].1 = w then true else hasW (l.take i) w) := by
  unfold nowR hasW
  rw [List.take_succ_eq_append_getElem h, List.foldl_append, List.foldl_append]
  exact ⟨rfl, rfl⟩
theorem nowR_ver (l : List Rw) (w : Int) : (nowR l w).2.1 = lastV l w := by
  have : ∀ (l : List Rw) (r : Rw), (l.foldl (fun r z => if z.1 = w then z else r) r).2.1 = l.foldl (fun n z => if z.1 = w then z.2.1 else n) r.2.1 := by
    intro l
    induction l with
    | nil => intro r; rfl
    | cons z l ih =>
      intro r
      rw [List.foldl_cons, List.foldl_cons, ih]
      congr 1
      split <;> rfl
  exact this l (0, 0, 0)
theorem f23 {H : Hp} {v : Value} {l : List Rw} {w : Int} (hl : SlRw H v l) (hB : tbOk l = true) : Scal EE 23 [v, .int .i64 w] H (.tuple #[vRw (nowR l w), .bool (hasW l w)]) := by
  refine scal_ok rfl rfl k23 (by simp [c23]) rfl fun m hw => ?_
  have hroom := hl.room
  have a18 := fun {m draw t d ts Q} => callT_at (m := m) (draw := draw) (s := t) (d := d) (ts := ts) (Q := Q) (f18 hl)
  rw [hB] at a18
  unfold vRw
  simp only [go_sem, ↓reduceIte, Nat.reduceEqDiff, reduceCtorEq, Nat.reduceAdd, Nat.reduceLeDiff, Nat.reduceMul, c23, hl.len, buildK, fillL, exps]
  refine go_for l.length (fun i s => s.H = H ∧ s.ρ 0 = .val v ∧ s.ρ 1 = .val (.int .i64 w) ∧ s.ρ 4 = .bx 0 [.int .i64 0, .int .i64 0, .int .i64 0] ∧ s.ρ 6 = .bx 1 (eRw (nowR (l.take i) w)) ∧ s.ρ 7 = .val (.bool (hasW (l.take i) w)) ∧ s.ρ 11 = .val v ∧ s.ρ 12 = .val (.int .i64 l.length) ∧ s.ρ 13 = .val (.int .i64 i))
    (fun s => s.H = H ∧ s.ρ 4 = .bx 0 [.int .i64 0, .int .i64 0, .int .i64 0] ∧ s.ρ 6 = .bx 1 (eRw (nowR l w)) ∧ s.ρ 7 = .val (.bool (hasW l w))) ?_ ?_ ?_
  · exact ⟨rfl, by simp [upd, ini], by simp [upd, ini], by simp [upd], by simp [upd, nowR, eRw], by simp [upd, hasW], by simp [upd], by simp [upd], by simp [upd]⟩
  · rintro i s hi ⟨hH, k0, k1, k4, k6, k7, k11, k12, k13⟩
    unfold eRw at k6
    simp only [go_sem, ↓reduceIte, Nat.reduceEqDiff, reduceCtorEq, Nat.reduceAdd, Nat.reduceLeDiff, Nat.reduceMul, k0, k1, k4, k6, k7, k11, k12, k13]
    refine brT.intro (fun q1 => ?_) (fun q1 => ?_) <;> simp only [go_sem, ↓reduceIte, Nat.reduceEqDiff, reduceCtorEq, Nat.reduceAdd, Nat.reduceLeDiff, Nat.reduceMul, k0, k1, k4, k6, k7, k11, k12, k13]
    · have hil : i < l.length := by have := of_decide_eq_true q1; omega
      obtain ⟨id2, p, o, ho, hr, hp, hia⟩ := hl.elem (List.getElem?_eq_getElem hil)
      have hr : (o.drop p).take 3 = eRw l[i] := hr
      unfold eRw at hr
      have hs := nowR_succ (w := w) hil
      have w1 := wrap64 ((i : Int) + 1) (by omega) (by omega)
      simp only [go_sem, ↓reduceIte, Nat.reduceEqDiff, reduceCtorEq, Nat.reduceAdd, Nat.reduceLeDiff, Nat.reduceMul, k0, k1, k4, k6, k7, k11, k12, k13, hia, hH, ho, hr, hp]
      cases q2 : decide (l[i].1 = w) <;> simp only [go_sem, ↓reduceIte, Nat.reduceEqDiff, reduceCtorEq, Nat.reduceAdd, Nat.reduceLeDiff, Nat.reduceMul, k0, k1, k4, k6, k7, k11, k12, k13, q2, a18, hw, hH, w1]
      · have q2' := of_decide_eq_false q2
        rw [if_neg q2', if_neg q2'] at hs
        refine ⟨hil, by rw [hs.1]; rfl, by rw [hs.2], by simp⟩
      · have q2' := of_decide_eq_true q2
        rw [if_pos q2', if_pos q2'] at hs
        refine ⟨hil, by rw [hs.1]; rfl, by rw [hs.2], by simp⟩
    · have : i = l.length := by have := of_decide_eq_false q1; omega
      subst this
      exact ⟨hH, by rw [List.take_length]; rfl, by rw [List.take_length]⟩
  · rintro s ⟨hH, k4, k6, k7⟩
    unfold eRw at k6
    simp only [go_sem, ↓reduceIte, Nat.reduceEqDiff, reduceCtorEq, Nat.reduceAdd, Nat.reduceLeDiff, Nat.reduceMul, hH, k4, k6, k7]
end Go.Proofs.Ytjepmnmakemfoaa.Ev

/- Sorting of a table's rows: plain. -/
namespace Go.Proofs.Ytjepmnmakemfoaa.Ev
set_option linter.all false
open Go
set_option maxRecDepth 4000

def gR (L : List Rw) (k : Nat) : Rw := (L[k]?).getD (0, 0, 0)
def swp (L : List Rw) (i j : Nat) : List Rw := (L.set i (gR L j)).set j (gR L i)
theorem gR_at {L : List Rw} {k : Nat} (h : k < L.length) : gR L k = L[k] := by unfold gR; rw [List.getElem?_eq_getElem h]; rfl
theorem swp_len (L : List Rw) (i j : Nat) : (swp L i j).length = L.length := by simp [swp]
theorem swp_g {L : List Rw} {i j : Nat} (hi : i < L.length) (hj : j < L.length) (k : Nat) : gR (swp L i j) k = if k = j then gR L i else if k = i then gR L j else gR L k := by
  unfold swp
  by_cases h1 : k = j
  · subst h1
    rw [if_pos rfl]
    show ((L.set i (gR L k)).set k (gR L i))[k]?.getD (0, 0, 0) = _
    rw [List.getElem?_set_self (by simpa using hj)]
    rfl
  · rw [if_neg h1]
    show ((L.set i (gR L j)).set j (gR L i))[k]?.getD (0, 0, 0) = _
    rw [List.getElem?_set_ne (fun e => h1 e.symm)]
    by_cases h2 : k = i
    · subst h2
      rw [if_pos rfl, List.getElem?_set_self hi]
      rfl
    · rw [if_neg h2, List.getElem?_set_ne (fun e => h2 e.symm)]
      rfl
theorem swp_perm {L : List Rw} {i j : Nat} (hi : i < L.length) (hj : j < L.length) : (swp L i j).Perm L := by
  unfold swp
  rw [gR_at hi, gR_at hj]
  exact List.set_set_perm hi hj
theorem ltR_trans {a b c : Rw} (h : ltR a b) (k : ltR b c) : ltR a c := by unfold ltR at *; omega
theorem ltR_asymm {a b : Rw} (h : ltR a b) : ¬ ltR b a := by unfold ltR at *; omega
/-- Rows that are right, no two alike in who and version. -/
def Gd (L : List Rw) : Prop := (∀ x ∈ L, rowOkB x = true) ∧ L.Pairwise fun x y => ltR x y ∨ ltR y x
theorem Gd.perm {L L' : List Rw} (h : Gd L) (p : L'.Perm L) : Gd L' := ⟨fun x hx => h.1 x (p.mem_iff.1 hx), (p.pairwise_iff (fun h => h.symm)).2 h.2⟩
theorem Gd.ok {L : List Rw} (h : Gd L) {k : Nat} (hk : k < L.length) : rowOkB (gR L k) = true := by rw [gR_at hk]; exact h.1 _ (List.getElem_mem hk)
theorem Gd.cmp {L : List Rw} (h : Gd L) {p q : Nat} (hp : p < L.length) (hq : q < L.length) (hne : p ≠ q) : ltR (gR L p) (gR L q) ∨ ltR (gR L q) (gR L p) := by
  rw [gR_at hp, gR_at hq]
  rcases Nat.lt_or_gt_of_ne hne with h1 | h1
  · exact List.pairwise_iff_getElem.1 h.2 p q hp hq h1
  · exact (List.pairwise_iff_getElem.1 h.2 q p hq hp h1).symm
/-- Rising in a part. -/
def SR (L : List Rw) (a b : Nat) : Prop := ∀ p q, a ≤ p → p < q → q < b → ltR (gR L p) (gR L q)
theorem sorted_eq : ∀ {L L' : List Rw}, L.Pairwise ltR → L'.Pairwise ltR → L.Perm L' → L = L'
  | [], L', _, _, p => (List.nil_perm.1 p).symm
  | x :: L, [], _, _, p => by have := p.length_eq; simp at this
  | x :: L, y :: L', h1, h2, p => by
    obtain ⟨a1, a2⟩ := List.pairwise_cons.1 h1
    obtain ⟨b1, b2⟩ := List.pairwise_cons.1 h2
    have hx := p.mem_iff (a := x)
    have hy := p.mem_iff (a := y)
    simp only [List.mem_cons, true_or, true_iff, iff_true] at hx hy
    have e : x = y := by
      rcases hx with e | hx
      · exact e
      · rcases hy with e | hy
        · exact e.symm
        · exact absurd (a1 y hy) (ltR_asymm (b1 x hx))
    subst e
    rw [sorted_eq a2 b2 (List.Perm.cons_inv p)]
theorem SR.pairwise {L : List Rw} (h : SR L 0 L.length) : L.Pairwise ltR := by
  rw [List.pairwise_iff_getElem]
  intro i j hi hj hij
  have := h i j (Nat.zero_le _) hij hj
  rw [gR_at hi, gR_at hj] at this
  exact this

/-- A row put in stands right. -/
theorem insF_spec (w n k : Int) : ∀ {l : List Rw}, l.Pairwise ltR → (∀ x ∈ l, x.1 = w → x.2.1 < n) →
    ((insF w n k l).1 = false ∧ (insF w n k l).2 = l ∧ ∀ x ∈ l, ltR x (w, n, k)) ∨ ((insF w n k l).1 = true ∧ (insF w n k l).2.Pairwise ltR ∧ (insF w n k l).2.Perm (l ++ [(w, n, k)]) ∧ ∃ x ∈ l, x.1 > w) := by
  have main : ∀ (r l : List Rw), (l ++ r).Pairwise ltR → (∀ x ∈ l ++ r, x.1 = w → x.2.1 < n) →
      (((insF w n k l).1 = false ∧ (insF w n k l).2 = l ∧ ∀ x ∈ l, ltR x (w, n, k)) ∨ ((insF w n k l).1 = true ∧ (insF w n k l).2.Pairwise ltR ∧ (insF w n k l).2.Perm (l ++ [(w, n, k)]) ∧ ∃ x ∈ l, x.1 > w)) →
      (((insF w n k (l ++ r)).1 = false ∧ (insF w n k (l ++ r)).2 = l ++ r ∧ ∀ x ∈ l ++ r, ltR x (w, n, k)) ∨ ((insF w n k (l ++ r)).1 = true ∧ (insF w n k (l ++ r)).2.Pairwise ltR ∧ (insF w n k (l ++ r)).2.Perm (l ++ r ++ [(w, n, k)]) ∧ ∃ x ∈ l ++ r, x.1 > w)) := by
    intro r
    induction r with
    | nil => intro l h1 h2 h3; simpa using h3
    | cons z r ih =>
      intro l h1 h2 h3
      have e : l ++ z :: r = (l ++ [z]) ++ r := by simp
      rw [e] at h1 h2 ⊢
      refine ih (l ++ [z]) h1 h2 ?_
      have hs : insF w n k (l ++ [z]) = insS w n k (insF w n k l) z := by unfold insF; rw [List.foldl_append]; rfl
      have h1' := (List.pairwise_append.1 h1).1
      obtain ⟨q1, q2, q3⟩ := List.pairwise_append.1 h1'
      have q3 : ∀ x ∈ l, ltR x z := fun x hx => q3 x hx z (by simp)
      have hzn : z.1 = w → z.2.1 < n := h2 z (by simp)
      rw [hs]
      rcases h3 with ⟨a1, a2, a3⟩ | ⟨a1, a2, a3, x0, hx0, hw0⟩
      · unfold insS
        by_cases hw : z.1 > w
        · rw [if_pos ⟨a1, hw⟩]
          refine .inr ⟨rfl, ?_, ?_, z, by simp, hw⟩
          · rw [a2, List.append_assoc]
            refine List.pairwise_append.2 ⟨q1, ?_, ?_⟩
            · simp only [List.singleton_append, List.pairwise_cons, List.mem_singleton, forall_eq, List.not_mem_nil, false_implies, implies_true, List.Pairwise.nil, and_true]
              exact .inl hw
            · intro x hx y hy
              simp only [List.singleton_append, List.mem_cons, List.not_mem_nil, or_false] at hy
              rcases hy with rfl | rfl
              · exact a3 x hx
              · exact q3 x hx
          · rw [a2, List.append_assoc, List.append_assoc]
            exact List.Perm.append_left l (List.Perm.swap _ _ _)
        · rw [if_neg (fun h => hw h.2)]
          refine .inl ⟨a1, by rw [a2], fun x hx => ?_⟩
          rcases List.mem_append.1 hx with h | h
          · exact a3 x h
          · rw [List.mem_singleton] at h
            subst h
            unfold ltR
            by_cases e2 : x.1 = w
            · exact .inr ⟨e2, hzn e2⟩
            · exact .inl (by show x.1 < w; omega)
      · unfold insS
        rw [if_neg (fun h => by rw [a1] at h; exact absurd h.1 (by decide))]
        refine .inr ⟨a1, ?_, ?_, x0, by simp [hx0], hw0⟩
        · refine List.pairwise_append.2 ⟨a2, by simp, fun x hx y hy => ?_⟩
          rw [List.mem_singleton] at hy
          subst hy
          rcases List.mem_append.1 (a3.mem_iff.1 hx) with h | h
          · exact q3 x h
          · rw [List.mem_singleton] at h
            subst h
            have := q3 x0 hx0
            unfold ltR at this ⊢
            simp only
            omega
        · refine (List.Perm.append_right [z] a3).trans ?_
          rw [List.append_assoc, List.append_assoc]
          exact List.Perm.append_left l (List.Perm.swap _ _ _)
  intro l h1 h2
  have := main l [] (by simpa using h1) (by simpa using h2) (.inl ⟨rfl, rfl, by simp⟩)
  simpa using this
theorem insR_spec {w n k : Int} {l : List Rw} (h1 : l.Pairwise ltR) (h2 : ∀ x ∈ l, x.1 = w → x.2.1 < n) : (insR w n k l).Pairwise ltR ∧ (insR w n k l).Perm (l ++ [(w, n, k)]) := by
  unfold insR
  rcases insF_spec w n k h1 h2 with ⟨a1, a2, a3⟩ | ⟨a1, a2, a3, _⟩
  · rw [if_neg (by rw [a1]; decide), a2]
    refine ⟨List.pairwise_append.2 ⟨h1, by simp, fun x hx y hy => ?_⟩, List.Perm.refl _⟩
    rw [List.mem_singleton] at hy
    subst hy
    exact a3 x hx
  · rw [if_pos a1]
    exact ⟨a2, a3⟩
theorem tb_pairwise {l : List Rw} (h : TbOk l) : l.Pairwise ltR := by
  have nb : ∀ i, (hi : i + 1 < l.length) → ltR (l[i]'(by omega)) l[i + 1] := fun i hi => ((rowAt_at hi).1 (h.2 (i + 1) hi)).2.1 (by omega)
  rw [List.pairwise_iff_getElem]
  intro i j hi hj hij
  obtain ⟨d, rfl⟩ : ∃ d, j = i + 1 + d := ⟨j - (i + 1), by omega⟩
  induction d with
  | zero => exact nb i hj
  | succ d ih => exact ltR_trans (ih (by omega) (by omega)) (nb (i + 1 + d) hj)
theorem lastV_mem {l : List Rw} (h : l.Pairwise ltR) (hk : ∀ x ∈ l, rowOkB x = true) {w : Int} : ∀ x ∈ l, x.1 = w → x.2.1 ≤ lastV l w := by
  have : ∀ (l : List Rw) (n : Int), l.Pairwise ltR → (∀ x ∈ l, x.1 = w → n ≤ x.2.1) → (n ≤ l.foldl (fun n z => if z.1 = w then z.2.1 else n) n) ∧ ∀ x ∈ l, x.1 = w → x.2.1 ≤ l.foldl (fun n z => if z.1 = w then z.2.1 else n) n := by
    intro l
    induction l with
    | nil => intro n _ _; exact ⟨Int.le_refl _, by simp⟩
    | cons z l ih =>
      intro n hp hn
      obtain ⟨p1, p2⟩ := List.pairwise_cons.1 hp
      rw [List.foldl_cons]
      by_cases e : z.1 = w
      · rw [if_pos e]
        obtain ⟨b1, b2⟩ := ih z.2.1 p2 (fun x hx ex => by
          have := p1 x hx
          unfold ltR at this
          omega)
        refine ⟨Int.le_trans (hn z (by simp) e) b1, fun x hx ex => ?_⟩
        rcases List.mem_cons.1 hx with rfl | hx
        · exact b1
        · exact b2 x hx ex
      · rw [if_neg e]
        obtain ⟨b1, b2⟩ := ih n p2 (fun x hx => hn x (List.mem_cons_of_mem _ hx))
        refine ⟨b1, fun x hx ex => ?_⟩
        rcases List.mem_cons.1 hx with rfl | hx
        · exact absurd ex e
        · exact b2 x hx ex
  exact (this l 0 h (fun x hx _ => by
    have := hk x hx
    simp only [rowOkB, Bool.and_eq_true, inB_t] at this
    omega)).2
/-- Both parts around a row sorted: all sorted. -/
theorem sep_sorted {L1 L3 : List Rw} {mid n : Nat} (h1 : ∀ k, k < mid → ltR (gR L1 k) (gR L1 mid)) (h2 : ∀ k, mid < k → k < n → ltR (gR L1 mid) (gR L1 k))
    (e0 : gR L3 mid = gR L1 mid) (e1 : ∀ k, k < mid → ∃ k', k' < mid ∧ gR L3 k = gR L1 k') (e2 : ∀ k, mid < k → k < n → ∃ k', mid < k' ∧ k' < n ∧ gR L3 k = gR L1 k') (s1 : SR L3 0 mid) (s2 : SR L3 (mid + 1) n) : SR L3 0 n := fun p q _ hpq hq => by
  have left : ∀ k, k < mid → ltR (gR L3 k) (gR L3 mid) := fun k hk => by
    obtain ⟨k', a, b⟩ := e1 k hk
    rw [b, e0]
    exact h1 k' a
  have right : ∀ k, mid < k → k < n → ltR (gR L3 mid) (gR L3 k) := fun k hk hkn => by
    obtain ⟨k', a, a2, b⟩ := e2 k hk hkn
    rw [b, e0]
    exact h2 k' a a2
  rcases Nat.lt_trichotomy q mid with a | a | a
  · exact s1 p q (Nat.zero_le _) hpq a
  · subst a; exact left p hpq
  · rcases Nat.lt_trichotomy p mid with b | b | b
    · exact ltR_trans (left p b) (right q a hq)
    · subst b; exact right q a hq
    · exact s2 p q b hpq hq
end Go.Proofs.Ytjepmnmakemfoaa.Ev

/- Sorting of a table's rows: walks. -/
namespace Go.Proofs.Ytjepmnmakemfoaa.Ev
set_option linter.all false
open Go
set_option maxRecDepth 4000

theorem iadr_eq {esz i : Nat} {v : Value} {a b : Option Addr} (h1 : ∀ (s : St) (x y : X), exv s.ρ x = some v → exv s.ρ y = some (.int .i64 i) → iadrK s esz x y = some (.val (.pointer a), s)) (h2 : ∀ (s : St) (x y : X), exv s.ρ x = some v → exv s.ρ y = some (.int .i64 i) → iadrK s esz x y = some (.val (.pointer b), s)) : a = b := by
  have e1 := h1 { ρ := fun t => if t = 0 then .val v else .val (.int .i64 i), gn := 0, H := [] } (.t 0) (.t 1) rfl rfl
  have e2 := h2 { ρ := fun t => if t = 0 then .val v else .val (.int .i64 i), gn := 0, H := [] } (.t 0) (.t 1) rfl rfl
  rw [e1] at e2
  simp only [Option.some.injEq, Prod.mk.injEq, FV.val.injEq, Value.pointer.injEq, and_true] at e2
  exact e2
/-- A row read. -/
theorem Sl.gAt {H : Hp} {v : Value} {L : List Rw} (h : SlRw H v L) {i : Nat} (hi : i < L.length) : ∃ id p o, H[id]? = some o ∧ (o.drop p).take 3 = eRw (gR L i) ∧ p + 3 ≤ o.length ∧ id < H.length ∧
    ∀ (s : St) (x y : X), exv s.ρ x = some v → exv s.ρ y = some (.int .i64 i) → iadrK s 3 x y = some (.val (.pointer (some ⟨id, p, some o.length⟩)), s) := by
  obtain ⟨id, p, o, ho, hr, hp, hia⟩ := h.elem (List.getElem?_eq_getElem hi)
  rw [gR_at hi]
  exact ⟨id, p, o, ho, hr, hp, (List.getElem?_eq_some_iff.1 ho).1, hia⟩
/-- Two rows that change places. -/
theorem Sl.swap {H : Hp} {v : Value} {L : List Rw} (h : SlRw H v L) {i j : Nat} (hi : i < L.length) (hj : j < L.length) : ∃ id pi pj o, H[id]? = some o ∧ (o.drop pi).take 3 = eRw (gR L i) ∧ (o.drop pj).take 3 = eRw (gR L j) ∧ pi + 3 ≤ o.length ∧ pj + 3 ≤ o.length ∧ idsOf v = [id] ∧ id < H.length ∧
    (∀ (s : St) (x y : X), exv s.ρ x = some v → exv s.ρ y = some (.int .i64 i) → iadrK s 3 x y = some (.val (.pointer (some ⟨id, pi, some o.length⟩)), s)) ∧
    (∀ (s : St) (x y : X), exv s.ρ x = some v → exv s.ρ y = some (.int .i64 j) → iadrK s 3 x y = some (.val (.pointer (some ⟨id, pj, some o.length⟩)), s)) ∧
    SlRw (H.set id (spl (spl o pi (eRw (gR L j))) pj (eRw (gR L i)))) v (swp L i j) := by
  obtain ⟨id, p, o, ho, hp, hid, hr, hia, hst⟩ := h.both hi
  obtain ⟨id', p', o', ho', hp', hid', hr', hia', hst'⟩ := h.both hj
  have e1 : id' = id := by rw [hid] at hid'; simpa using hid'.symm
  subst e1
  rw [ho] at ho'
  cases ho'
  have hidl := (List.getElem?_eq_some_iff.1 ho).1
  rw [gR_at hi, gR_at hj]
  have s1 := hst L[j] (eRw L[j]) rfl rfl
  obtain ⟨id2, p2, o2, c1, c2, c3, c4, c5, c6⟩ := s1.both (i := j) (by rw [List.length_set]; exact hj)
  have e2 : id2 = id' := by rw [hid] at c3; simpa using c3.symm
  subst e2
  rw [List.getElem?_set_self hidl] at c1
  cases c1
  have hpt := iadr_eq hia' c5
  simp only [Option.some.injEq, Addr.mk.injEq] at hpt
  have e3 : p2 = p' := hpt.2.1.symm
  subst e3
  have s2 := c6 L[i] (eRw L[i]) rfl rfl
  rw [List.set_set] at s2
  refine ⟨id2, p, p2, o, ho, hr, hr', hp, hp', hid, hidl, hia, hia', ?_⟩
  unfold swp
  rw [gR_at hi, gR_at hj]
  exact s2

/-- Sorted so far: the same rows, the same memory elsewhere. -/
def So (H : Hp) (v : Value) (L0 L : List Rw) (H' : Hp) : Prop := SlRw H' v L ∧ (∀ j, j ∉ idsOf v → H'[j]? = H[j]?) ∧ H'.length = H.length ∧ L.Perm L0
theorem So.refl {H : Hp} {v : Value} {L : List Rw} (h : SlRw H v L) : So H v L L H := ⟨h, fun _ _ => rfl, rfl, List.Perm.refl _⟩
theorem So.trans {H H1 H2 : Hp} {v : Value} {L0 L1 L2 : List Rw} (h : So H v L0 L1 H1) (k : So H1 v L1 L2 H2) : So H v L0 L2 H2 := ⟨k.1, fun j hj => (k.2.1 j hj).trans (h.2.1 j hj), k.2.2.1.trans h.2.2.1, k.2.2.2.trans h.2.2.2⟩
theorem So.swap {H H1 : Hp} {v : Value} {L0 L : List Rw} {i j id pi pj : Nat} {o : List Value} (h : So H v L0 L H1) (hi : i < L.length) (hj : j < L.length) (hid : idsOf v = [id]) (hs : SlRw (H1.set id (spl (spl o pi (eRw (gR L j))) pj (eRw (gR L i)))) v (swp L i j)) :
    So H v L0 (swp L i j) (H1.set id (spl (spl o pi (eRw (gR L j))) pj (eRw (gR L i)))) := by
  refine ⟨hs, fun x hx => ?_, by simp [h.2.2.1], (swp_perm hi hj).trans h.2.2.2⟩
  have hx1 : id ≠ x := fun e => hx (by rw [hid, e]; simp)
  rw [List.getElem?_set_ne hx1]
  exact h.2.1 x hx
/-- Rows outside of a part stay; those in the part are of the part. -/
def InP (L L' : List Rw) (a b : Nat) : Prop := (∀ k, ¬ (a ≤ k ∧ k < b) → gR L' k = gR L k) ∧ ∀ k, a ≤ k → k < b → ∃ k', a ≤ k' ∧ k' < b ∧ gR L' k = gR L k'
theorem InP.refl (L : List Rw) (a b : Nat) : InP L L a b := ⟨fun _ _ => rfl, fun k h1 h2 => ⟨k, h1, h2, rfl⟩⟩
theorem InP.swap {L L' : List Rw} {a b i j : Nat} (h : InP L L' a b) (hi : i < L'.length) (hj : j < L'.length) (ai : a ≤ i) (ib : i < b) (aj : a ≤ j) (jb : j < b) : InP L (swp L' i j) a b := by
  refine ⟨fun k hk => ?_, fun k h1 h2 => ?_⟩
  · rw [swp_g hi hj, if_neg (fun e => by subst e; exact hk ⟨aj, jb⟩), if_neg (fun e => by subst e; exact hk ⟨ai, ib⟩)]
    exact h.1 k hk
  · rw [swp_g hi hj]
    split
    · exact h.2 i ai ib
    · split
      · exact h.2 j aj jb
      · exact h.2 k h1 h2

theorem f98 {m : Md} {H : Hp} {v : Value} {L : List Rw} {a b : Nat} (hl : SlRw H v L) (hg : Gd L) (hab : a ≤ b) (hb : b ≤ L.length) (hle : L.length ≤ 1000) (hw0 : Wr m H) (hv : ∀ id ∈ idsOf v, m.wr id = true) :
    Fun EE m 98 [v, .int .i64 a, .int .i64 b, .func (.func 57) #[] #[]] H fun _ H' => ∃ L', So H v L L' H' ∧ InP L L' a b ∧ SR L' a b := by
  refine fun_f rfl rfl k98 (by simp [c98]) ?_
  have w0 : IntKind.i64.wrap ((a : Int) + 1) = ((a + 1 : Nat) : Int) := by rw [wrap64 _ (by omega) (by omega)]; omega
  simp only [go_sem, ↓reduceIte, Nat.reduceEqDiff, reduceCtorEq, Nat.reduceAdd, Nat.reduceLeDiff, Nat.reduceMul, c98, w0]
  refine go_for (b - a) (fun n s => s.ρ 0 = .val v ∧ s.ρ 1 = .val (.int .i64 a) ∧ s.ρ 2 = .val (.int .i64 b) ∧ s.ρ 3 = .val (.func (.func 57) #[] #[]) ∧ s.ρ 8 = .val (.int .i64 ((a + 1 + n : Nat) : Int)) ∧ ∃ L', So H v L L' s.H ∧ InP L L' a b ∧ SR L' a (a + 1 + n))
    (fun s => ∃ L', So H v L L' s.H ∧ InP L L' a b ∧ SR L' a b) ?_ ?_ ?_
  · exact ⟨by simp [upd, ini], by simp [upd, ini], by simp [upd, ini], by simp [upd, ini], by simp [upd], L, So.refl hl, InP.refl _ _ _, fun p q h1 h2 h3 => by omega⟩
  · rintro n s hn ⟨k0, k1, k2, k3, k8, L1, hS, hI, hR⟩
    simp only [go_sem, ↓reduceIte, Nat.reduceEqDiff, reduceCtorEq, Nat.reduceAdd, Nat.reduceLeDiff, Nat.reduceMul, k0, k1, k2, k3, k8]
    refine brT.intro (fun q => ?_) (fun q => ?_) <;> simp only [go_sem, ↓reduceIte, Nat.reduceEqDiff, reduceCtorEq, Nat.reduceAdd, Nat.reduceLeDiff, Nat.reduceMul, k0, k1, k2, k3, k8]
    rotate_left
    · have := of_decide_eq_false q
      exact ⟨L1, hS, hI, fun p q h1 h2 h3 => hR p q h1 h2 (by omega)⟩
    have hib : a + 1 + n < b := by have := of_decide_eq_true q; omega
    have w8 : IntKind.i64.wrap (((a + 1 + n : Nat) : Int) + 1) = ((a + 1 + (n + 1) : Nat) : Int) := by rw [wrap64 _ (by omega) (by omega)]; omega
    generalize hie : a + 1 + n = i at *
    refine go_loop (fun d t => t.ρ 0 = .val v ∧ t.ρ 1 = .val (.int .i64 a) ∧ t.ρ 2 = .val (.int .i64 b) ∧ t.ρ 3 = .val (.func (.func 57) #[] #[]) ∧ t.ρ 8 = .val (.int .i64 i) ∧ ∃ j, d = j ∧ a ≤ j ∧ j ≤ i ∧ t.ρ 9 = .val (.int .i64 j) ∧ ∃ L', So H v L L' t.H ∧ InP L L' a b ∧ (∀ p q, a ≤ p → p < q → q ≤ i → p ≠ j → q ≠ j → ltR (gR L' p) (gR L' q)) ∧ ∀ q, j < q → q ≤ i → ltR (gR L' j) (gR L' q))
      (fun t => t.ρ 0 = .val v ∧ t.ρ 1 = .val (.int .i64 a) ∧ t.ρ 2 = .val (.int .i64 b) ∧ t.ρ 3 = .val (.func (.func 57) #[] #[]) ∧ t.ρ 8 = .val (.int .i64 i) ∧ ∃ L', So H v L L' t.H ∧ InP L L' a b ∧ SR L' a (i + 1)) i ?_ ?_ ?_
    · exact ⟨by simp [upd, k0], by simp [upd, k1], by simp [upd, k2], by simp [upd, k3], by simp [upd, k8], i, rfl, by omega, Nat.le_refl _, by simp [upd], L1, hS, hI, fun p q h1 h2 h3 h4 h5 => hR p q h1 h2 (by omega), fun q h1 h2 => by omega⟩
    · rintro d t ⟨t0, t1, t2, t3, t8, j, rfl, haj, hji, t9, L2, hS2, hI2, hP, hQ⟩
      have hlen : L2.length = L.length := hS2.2.2.2.length_eq
      have hw : Wr m t.H := fun id hid => hw0 id (by have := hS2.2.2.1; omega)
      have hG := hg.perm hS2.2.2.2
      simp only [go_sem, ↓reduceIte, Nat.reduceEqDiff, reduceCtorEq, Nat.reduceAdd, Nat.reduceLeDiff, Nat.reduceMul, t0, t1, t2, t3, t8, t9]
      refine go_draw ?_
      simp only [go_sem, ↓reduceIte, Nat.reduceEqDiff, reduceCtorEq, Nat.reduceAdd, Nat.reduceLeDiff, Nat.reduceMul, t0, t1, t2, t3, t8, t9]
      cases d1 : decide ((d : Int) > (a : Int)) <;> simp only [go_sem, ↓reduceIte, Nat.reduceEqDiff, reduceCtorEq, Nat.reduceAdd, Nat.reduceLeDiff, Nat.reduceMul, d1, t0, t1, t2, t3, t8, t9]
      · have hda : d = a := by have := of_decide_eq_false d1; omega
        refine ⟨by rfl, L2, hS2, hI2, fun p q h1 h2 h3 => ?_⟩
        by_cases e : p = d
        · subst e
          exact hQ q h2 (by omega)
        · exact hP p q h1 h2 (by omega) e (by omega)
      have hda : a < d := by have := of_decide_eq_true d1; omega
      have hd1 : d < L2.length := by omega
      have hd0 : d - 1 < L2.length := by omega
      obtain ⟨id, pi, pj, o, ho, hri, hrj, hpi, hpj, hid, hidl, hia, hja, hsw⟩ := hS2.1.swap hd1 hd0
      have wj : IntKind.i64.wrap ((d : Int) - 1) = ((d - 1 : Nat) : Int) := by rw [wrap64 _ (by omega) (by omega)]; omega
      have a57 := fun {m draw t d ts Q} (h1) (h2) => callT_at (m := m) (draw := draw) (s := t) (d := d) (ts := ts) (Q := Q) (f57 (H := t.H) (a := gR L2 (d - 1 + 1)) (b := gR L2 (d - 1))) h1 h2
      have c57 : ∀ {m : Md} {draw : Bool} {t' : St} {d' : Option Nat} {ts : List Tk} {Q : Ex → St → Prop}, Wr m t'.H → callT EE m draw 57 (some [.agg #[.int .i64 (gR L2 d).1, .int .i64 (gR L2 d).2.1, .int .i64 (gR L2 d).2.2], .agg #[.int .i64 (gR L2 (d - 1)).1, .int .i64 (gR L2 (d - 1)).2.1, .int .i64 (gR L2 (d - 1)).2.2]]) t' d' ts Q = go EE m ts { t' with ρ := upd t'.ρ d' (.val (.int .i64 (cmpR (gR L2 d) (gR L2 (d - 1))))) } Q := fun {m draw t' d' ts Q} h => callT_at (f57 (H := t'.H) (a := gR L2 d) (b := gR L2 (d - 1))) rfl h
      have hcmp := cmpR_lt (hG.ok hd1) (hG.ok hd0)
      unfold eRw at hri hrj
      simp only [go_sem, ↓reduceIte, Nat.reduceEqDiff, reduceCtorEq, Nat.reduceAdd, Nat.reduceLeDiff, Nat.reduceMul, t0, t1, t2, t3, t8, t9, hia, ho, hri, hpi, wj, hja, hrj, hpj, c57, hw]
      refine ⟨by rfl, ?_⟩
      refine brT.intro (fun q2 => ?_) (fun q2 => ?_) <;> simp only [go_sem, ↓reduceIte, Nat.reduceEqDiff, reduceCtorEq, Nat.reduceAdd, Nat.reduceLeDiff, Nat.reduceMul, t0, t1, t2, t3, t8, t9]
      · have q2' := hcmp.1 (of_decide_eq_true q2)
        have hw1 := hv id (by rw [hid]; simp)
        have hset : ∀ q, (t.H.set id q)[id]? = some q := fun q => List.getElem?_set_self hidl
        have hsw' := hS2.swap hd1 hd0 hid hsw
        refine go_draw ?_
        unfold eRw at hsw'
        simp only [go_sem, ↓reduceIte, Nat.reduceEqDiff, reduceCtorEq, Nat.reduceAdd, Nat.reduceLeDiff, Nat.reduceMul, t0, t1, t2, t3, t8, t9, wj, hia, ho, hri, hpi, hja, hrj, hpj, hw1, hset, spl_length, List.set_set]
        refine ⟨by rfl, d - 1, by omega, d - 1, rfl, by omega, by omega, rfl, swp L2 d (d - 1), hsw', hI2.swap hd1 hd0 (by omega) (by omega) (by omega) (by omega), fun p q h1 h2 h3 h4 h5 => ?_, fun q h1 h2 => ?_⟩
        · rw [swp_g hd1 hd0, swp_g hd1 hd0, if_neg h4, if_neg h5]
          by_cases e1 : p = d
          · subst e1
            rw [if_pos rfl, if_neg (by omega)]
            exact hP _ q (by omega) (by omega) h3 (by omega) (by omega)
          · rw [if_neg e1]
            by_cases e2 : q = d
            · subst e2
              rw [if_pos rfl]
              exact hP p _ h1 (by omega) (by omega) e1 (by omega)
            · rw [if_neg e2]
              exact hP p q h1 h2 h3 e1 e2
        · rw [swp_g hd1 hd0, swp_g hd1 hd0, if_pos rfl, if_neg (by omega)]
          by_cases e2 : q = d
          · subst e2
            rw [if_pos rfl]
            exact q2'
          · rw [if_neg e2]
            exact hQ q (by omega) h2
      · have q2' : ¬ ltR (gR L2 d) (gR L2 (d - 1)) := fun h => by have := hcmp.2 h; have := of_decide_eq_false q2; omega
        have q3 : ltR (gR L2 (d - 1)) (gR L2 d) := by
          rcases hG.cmp hd1 hd0 (by omega) with h | h
          · exact absurd h q2'
          · exact h
        refine ⟨L2, hS2, hI2, fun p q h1 h2 h3 => ?_⟩
        by_cases e : p = d
        · subst e
          exact hQ q h2 (by omega)
        · by_cases e2 : q = d
          · subst e2
            by_cases e3 : p = q - 1
            · subst e3
              exact q3
            · exact ltR_trans (hP p (q - 1) h1 (by omega) (by omega) e (by omega)) q3
          · exact hP p q h1 h2 (by omega) e e2
    · rintro t ⟨t0, t1, t2, t3, t8, L2, hS2, hI2, hR2⟩
      have w9 : IntKind.i64.wrap ((i : Int) + 1) = ((a + 1 + (n + 1) : Nat) : Int) := by rw [wrap64 _ (by omega) (by omega)]; omega
      simp only [go_sem, ↓reduceIte, Nat.reduceEqDiff, reduceCtorEq, Nat.reduceAdd, Nat.reduceLeDiff, Nat.reduceMul, t0, t1, t2, t3, t8, w9]
      exact ⟨by omega, L2, hS2, hI2, fun p q h1 h2 h3 => hR2 p q h1 h2 (by omega)⟩
  · rintro s h
    simp only [go_sem, ↓reduceIte, Nat.reduceEqDiff, reduceCtorEq, Nat.reduceAdd, Nat.reduceLeDiff, Nat.reduceMul]
    exact h
end Go.Proofs.Ytjepmnmakemfoaa.Ev

/- Sorting of a table's rows: how the library's sort goes on 13 to 20 rows, all but the last sorted. -/
namespace Go.Proofs.Ytjepmnmakemfoaa.Ev
set_option linter.all false
open Go
set_option maxRecDepth 4000

theorem c57' {m : Md} {draw : Bool} {t' : St} {d' : Option Nat} {ts : List Tk} {Q : Ex → St → Prop} {a b : Rw} (h : Wr m t'.H) : callT EE m draw 57 (some [.agg #[.int .i64 a.1, .int .i64 a.2.1, .int .i64 a.2.2], .agg #[.int .i64 b.1, .int .i64 b.2.1, .int .i64 b.2.2]]) t' d' ts Q = go EE m ts { t' with ρ := upd t'.ρ d' (.val (.int .i64 (cmpR a b))) } Q := callT_at (f57 (H := t'.H) (a := a) (b := b)) rfl h
theorem f107 {m : Md} {H : Hp} {n : Nat} (hn : n ≤ 20) (hw : Wr m H) : Fun EE m 107 [.int .u64 n] H fun r H' => (∃ x : Int, r = .int .i64 x ∧ (13 ≤ n → x ≠ 0)) ∧ H' = H := by
  refine fun_f rfl rfl k107 (by simp [c107]) ?_
  obtain ⟨c, hc⟩ := byte_at (b := ⟨#[0, 1, 2, 2, 3, 3, 3, 3, 4, 4, 4, 4, 4, 4, 4, 4, 5, 5, 5, 5, 5, 5, 5, 5, 5, 5, 5, 5, 5, 5, 5, 5, 6, 6, 6, 6, 6, 6, 6, 6, 6, 6, 6, 6, 6, 6, 6, 6, 6, 6, 6, 6, 6, 6, 6, 6, 6, 6, 6, 6, 6, 6, 6, 6, 7, 7, 7, 7, 7, 7, 7, 7, 7, 7, 7, 7, 7, 7, 7, 7, 7, 7, 7, 7, 7, 7, 7, 7, 7, 7, 7, 7, 7, 7, 7, 7, 7, 7, 7, 7, 7, 7, 7, 7, 7, 7, 7, 7, 7, 7, 7, 7, 7, 7, 7, 7, 7, 7, 7, 7, 7, 7, 7, 7, 7, 7, 7, 7, 8, 8, 8, 8, 8, 8, 8, 8, 8, 8, 8, 8, 8, 8, 8, 8, 8, 8, 8, 8, 8, 8, 8, 8, 8, 8, 8, 8, 8, 8, 8, 8, 8, 8, 8, 8, 8, 8, 8, 8, 8, 8, 8, 8, 8, 8, 8, 8, 8, 8, 8, 8, 8, 8, 8, 8, 8, 8, 8, 8, 8, 8, 8, 8, 8, 8, 8, 8, 8, 8, 8, 8, 8, 8, 8, 8, 8, 8, 8, 8, 8, 8, 8, 8, 8, 8, 8, 8, 8, 8, 8, 8, 8, 8, 8, 8, 8, 8, 8, 8, 8, 8, 8, 8, 8, 8, 8, 8, 8, 8, 8, 8, 8, 8, 8, 8, 8, 8, 8, 8, 8, 8, 8, 8, 8, 8, 8, 8]⟩) (i := n) (by show n < 256; omega)
  have hix : ∀ {t : St} {y : X}, exv t.ρ y = some (.int .u8 (n : Int)) → idxK t (.c (.string ⟨#[0, 1, 2, 2, 3, 3, 3, 3, 4, 4, 4, 4, 4, 4, 4, 4, 5, 5, 5, 5, 5, 5, 5, 5, 5, 5, 5, 5, 5, 5, 5, 5, 6, 6, 6, 6, 6, 6, 6, 6, 6, 6, 6, 6, 6, 6, 6, 6, 6, 6, 6, 6, 6, 6, 6, 6, 6, 6, 6, 6, 6, 6, 6, 6, 7, 7, 7, 7, 7, 7, 7, 7, 7, 7, 7, 7, 7, 7, 7, 7, 7, 7, 7, 7, 7, 7, 7, 7, 7, 7, 7, 7, 7, 7, 7, 7, 7, 7, 7, 7, 7, 7, 7, 7, 7, 7, 7, 7, 7, 7, 7, 7, 7, 7, 7, 7, 7, 7, 7, 7, 7, 7, 7, 7, 7, 7, 7, 7, 8, 8, 8, 8, 8, 8, 8, 8, 8, 8, 8, 8, 8, 8, 8, 8, 8, 8, 8, 8, 8, 8, 8, 8, 8, 8, 8, 8, 8, 8, 8, 8, 8, 8, 8, 8, 8, 8, 8, 8, 8, 8, 8, 8, 8, 8, 8, 8, 8, 8, 8, 8, 8, 8, 8, 8, 8, 8, 8, 8, 8, 8, 8, 8, 8, 8, 8, 8, 8, 8, 8, 8, 8, 8, 8, 8, 8, 8, 8, 8, 8, 8, 8, 8, 8, 8, 8, 8, 8, 8, 8, 8, 8, 8, 8, 8, 8, 8, 8, 8, 8, 8, 8, 8, 8, 8, 8, 8, 8, 8, 8, 8, 8, 8, 8, 8, 8, 8, 8, 8, 8, 8, 8, 8, 8, 8, 8, 8]⟩)) y = some (.val (.int .u8 c.toNat), t) := fun {t y} hy => by
    unfold idxK
    rw [hy]
    simp only [exv, ex]
    rw [if_pos (by omega), Int.toNat_natCast, hc]
    rfl
  have hpos : 13 ≤ n → (0 : Nat) < c.toNat ∧ c.toNat < 256 := fun h => by
    have h8 : n = 13 ∨ n = 14 ∨ n = 15 ∨ n = 16 ∨ n = 17 ∨ n = 18 ∨ n = 19 ∨ n = 20 := by omega
    rcases h8 with rfl | rfl | rfl | rfl | rfl | rfl | rfl | rfl <;> (cases hc; decide)
  have hcl := c.toNat_lt
  have d1 : decide ((n : Int) ≥ 4294967296) = false := decide_eq_false (by omega)
  have d2 : decide ((n : Int) ≥ 65536) = false := decide_eq_false (by omega)
  have d3 : decide ((n : Int) ≥ 256) = false := decide_eq_false (by omega)
  have w1 : IntKind.u8.wrap (n : Int) = n := wrap8 _ (by omega) (by omega)
  have w2 : IntKind.i64.wrap ((c.toNat : Nat) : Int) = ((c.toNat : Nat) : Int) := wrap64 _ (by omega) (by omega)
  have w3 : IntKind.i64.wrap (0 + ((c.toNat : Nat) : Int)) = ((c.toNat : Nat) : Int) := by rw [wrap64 _ (by omega) (by omega)]; omega
  simp only [go_sem, ↓reduceIte, Nat.reduceEqDiff, reduceCtorEq, Nat.reduceAdd, Nat.reduceLeDiff, Nat.reduceMul, c107, d1, d2, d3, w1, hix, w2, w3]
  exact ⟨_, rfl, fun h => by have := hpos h; omega⟩
theorem f93 {m : Md} {H : Hp} {n : Nat} (hn : n ≤ 20) (hw : Wr m H) : Fun EE m 93 [.int .u64 n] H fun r H' => (∃ x : Int, r = .int .i64 x ∧ (13 ≤ n → x ≠ 0)) ∧ H' = H := by
  refine fun_f rfl rfl k93 (by simp [c93]) ?_
  simp only [go_sem, ↓reduceIte, Nat.reduceEqDiff, reduceCtorEq, Nat.reduceAdd, Nat.reduceLeDiff, Nat.reduceMul, c93]
  refine callT_now (f107 hn hw) fun r H1 ⟨⟨x, e1, e3⟩, e2⟩ => ?_
  subst e1
  simp only [go_sem, ↓reduceIte, Nat.reduceEqDiff, reduceCtorEq, Nat.reduceAdd, Nat.reduceLeDiff, Nat.reduceMul]
  exact ⟨⟨_, rfl, e3⟩, e2⟩

theorem f113 {m : Md} {H : Hp} {v pt : Value} {L : List Rw} {p q : Nat} (hl : SlRw H v L) (hg : Gd L) (hp : p < L.length) (hq : q < L.length) (hlt : ltR (gR L p) (gR L q)) (hw : Wr m H) :
    Fun EE m 113 [v, .int .i64 p, .int .i64 q, pt, .func (.func 57) #[] #[]] H fun r H' => r = .tuple #[.int .i64 p, .int .i64 q] ∧ H' = H := by
  refine fun_f rfl rfl k113 (by simp [c113]) ?_
  obtain ⟨id, a, o, ho, hr, hpp, _, hia⟩ := hl.gAt hp
  obtain ⟨id', a', o', ho', hr', hpp', _, hia'⟩ := hl.gAt hq
  have hcmp := cmpR_lt (hg.ok hq) (hg.ok hp)
  have d1 : decide (cmpR (gR L q) (gR L p) < 0) = false := decide_eq_false (fun h => ltR_asymm hlt (hcmp.1 h))
  unfold eRw at hr hr'
  simp only [go_sem, ↓reduceIte, Nat.reduceEqDiff, reduceCtorEq, Nat.reduceAdd, Nat.reduceLeDiff, Nat.reduceMul, c113]
  refine go_draw ?_
  simp only [go_sem, ↓reduceIte, Nat.reduceEqDiff, reduceCtorEq, Nat.reduceAdd, Nat.reduceLeDiff, Nat.reduceMul, hia, ho, hr, hpp, hia', ho', hr', hpp', c57', hw, d1]
  rfl
theorem f112 {m : Md} {H : Hp} {v pt : Value} {L : List Rw} {i j k : Nat} (hl : SlRw H v L) (hg : Gd L) (hij : i < j) (hjk : j < k) (hk : k < L.length) (hS : ∀ p q, p < q → q ≤ k → ltR (gR L p) (gR L q)) (hw : Wr m H) :
    Fun EE m 112 [v, .int .i64 i, .int .i64 j, .int .i64 k, pt, .func (.func 57) #[] #[]] H fun r H' => r = .int .i64 j ∧ H' = H := by
  refine fun_f rfl rfl k112 (by simp [c112]) ?_
  simp only [go_sem, ↓reduceIte, Nat.reduceEqDiff, reduceCtorEq, Nat.reduceAdd, Nat.reduceLeDiff, Nat.reduceMul, c112]
  refine callT_now (f113 hl hg (by omega) (by omega) (hS i j hij (by omega)) hw) fun r H1 ⟨e1, e2⟩ => ?_
  subst e1
  have e2 : H1 = H := e2
  subst e2
  simp only [go_sem, ↓reduceIte, Nat.reduceEqDiff, reduceCtorEq, Nat.reduceAdd, Nat.reduceLeDiff, Nat.reduceMul, List.getElem?_toArray]
  refine callT_now (f113 hl hg (by omega) (by omega) (hS j k hjk (by omega)) hw) fun r H1 ⟨e1, e2⟩ => ?_
  subst e1
  have e2 : H1 = _ := e2
  subst e2
  simp only [go_sem, ↓reduceIte, Nat.reduceEqDiff, reduceCtorEq, Nat.reduceAdd, Nat.reduceLeDiff, Nat.reduceMul, List.getElem?_toArray]
  refine callT_now (f113 hl hg (by omega) (by omega) (hS i j hij (by omega)) hw) fun r H1 ⟨e1, e2⟩ => ?_
  subst e1
  have e2 : H1 = _ := e2
  subst e2
  simp only [go_sem, ↓reduceIte, Nat.reduceEqDiff, reduceCtorEq, Nat.reduceAdd, Nat.reduceLeDiff, Nat.reduceMul, List.getElem?_toArray]
theorem f101 {m : Md} {H : Hp} {v : Value} {L : List Rw} {n : Nat} (hl : SlRw H v L) (hg : Gd L) (h13 : 13 ≤ n) (h20 : n ≤ 20) (hn : n = L.length) (hS : SR L 0 (n - 1)) (hw : Wr m H) :
    Fun EE m 101 [v, .int .i64 0, .int .i64 n, .func (.func 57) #[] #[]] H fun r H' => r = .tuple #[.int .i64 ((n / 4 * 2 : Nat) : Int), .int .i64 1] ∧ H <+: H' := by
  refine fun_f rfl rfl k101 (by simp [c101]) ?_
  have p0 : H <+: H ++ [[Value.int .i64 0]] := List.prefix_append _ _
  have w0 : IntKind.i64.wrap ((n : Int) - 0) = n := by rw [wrap64 _ (by omega) (by omega)]; omega
  have t4 : Int.tdiv (n : Int) 4 = ((n / 4 : Nat) : Int) := rfl
  have w4 : IntKind.i64.wrap ((n / 4 : Nat) : Int) = ((n / 4 : Nat) : Int) := wrap64 _ (by omega) (by omega)
  have m1 : IntKind.i64.wrap (((n / 4 : Nat) : Int) * 1) = ((n / 4 : Nat) : Int) := by rw [wrap64 _ (by omega) (by omega)]; omega
  have m2 : IntKind.i64.wrap (((n / 4 : Nat) : Int) * 2) = ((n / 4 * 2 : Nat) : Int) := by rw [wrap64 _ (by omega) (by omega)]; omega
  have m3 : IntKind.i64.wrap (((n / 4 : Nat) : Int) * 3) = ((n / 4 * 3 : Nat) : Int) := by rw [wrap64 _ (by omega) (by omega)]; omega
  have z : ∀ k : Nat, k ≤ 100 → IntKind.i64.wrap (0 + (k : Int)) = (k : Int) := fun k hk => by rw [wrap64 _ (by omega) (by omega)]; omega
  have ne4 : ¬ ((4 : Int) = 0) := by decide
  have d8 : decide ((n : Int) ≥ 8) = true := decide_eq_true (by omega)
  have d50 : decide ((n : Int) ≥ 50) = false := decide_eq_false (by omega)
  have z1 := z (n / 4) (by omega)
  have z2 := z (n / 4 * 2) (by omega)
  have z3 := z (n / 4 * 3) (by omega)
  simp only [go_sem, ↓reduceIte, Nat.reduceEqDiff, reduceCtorEq, Nat.reduceAdd, Nat.reduceLeDiff, Nat.reduceMul, c101, w0, t4, w4, m1, m2, m3, z1, z2, z3, ne4, d8, d50]
  refine callT_now (f112 (hl.pre p0) hg (by omega) (by omega) (by omega) (fun p q h1 h2 => hS p q (Nat.zero_le _) h1 (by omega)) (hw.pre p0)) fun r H1 ⟨e1, e2⟩ => ?_
  subst e1
  have e2 : H1 = _ := e2
  subst e2
  have hg0 : (H ++ [[Value.int .i64 0]])[H.length]? = some [.int .i64 0] := by simp
  simp only [go_sem, ↓reduceIte, Nat.reduceEqDiff, reduceCtorEq, Nat.reduceAdd, Nat.reduceLeDiff, Nat.reduceMul, hg0]
  exact p0
theorem f103 {m : Md} {H : Hp} {v : Value} {L : List Rw} {n : Nat} (hl : SlRw H v L) (hg : Gd L) (h1n : 1 ≤ n) (h20 : n ≤ 20) (hn : n = L.length) (hw : Wr m H) :
    Fun EE m 103 [v, .int .i64 0, .int .i64 n, .func (.func 57) #[] #[]] H fun r H' => (∃ b : Bool, r = .bool b ∧ (b = true → SR L 0 n)) ∧ H' = H := by
  refine fun_f rfl rfl k103 (by simp [c103]) ?_
  have w0 : IntKind.i64.wrap (0 + 1) = 1 := rfl
  have wn : IntKind.i64.wrap ((n : Int) - 0) = n := by rw [wrap64 _ (by omega) (by omega)]; omega
  have d50 : decide ((n : Int) < 50) = true := decide_eq_true (by omega)
  simp only [go_sem, ↓reduceIte, Nat.reduceEqDiff, reduceCtorEq, Nat.reduceAdd, Nat.reduceLeDiff, Nat.reduceMul, c103, w0]
  refine go_loop (fun j t => j = 0 ∧ t.H = H ∧ t.ρ 0 = .val v ∧ t.ρ 1 = .val (.int .i64 0) ∧ t.ρ 2 = .val (.int .i64 n) ∧ t.ρ 3 = .val (.func (.func 57) #[] #[]) ∧ t.ρ 9 = .val (.int .i64 1) ∧ t.ρ 10 = .val (.int .i64 0)) (fun _ => False) 0 ⟨rfl, rfl, by simp [upd, ini], by simp [upd, ini], by simp [upd, ini], by simp [upd, ini], by simp [upd], by simp [upd]⟩ ?_ (fun _ h => h.elim)
  rintro j t ⟨rfl, tH, t0, t1, t2, t3, t9, t10⟩
  have d5 : decide ((0 : Int) < 5) = true := rfl
  simp only [go_sem, ↓reduceIte, Nat.reduceEqDiff, reduceCtorEq, Nat.reduceAdd, Nat.reduceLeDiff, Nat.reduceMul, t0, t1, t2, t3, t9, t10, d5]
  refine go_for (n - 1) (fun i u => u.H = H ∧ u.ρ 0 = .val v ∧ u.ρ 1 = .val (.int .i64 0) ∧ u.ρ 2 = .val (.int .i64 n) ∧ u.ρ 3 = .val (.func (.func 57) #[] #[]) ∧ u.ρ 9 = .val (.int .i64 ((i + 1 : Nat) : Int)) ∧ SR L 0 (i + 1))
    (fun u => u.H = H ∧ u.ρ 1 = .val (.int .i64 0) ∧ u.ρ 2 = .val (.int .i64 n) ∧ ∃ i : Nat, u.ρ 9 = .val (.int .i64 i) ∧ (i = n → SR L 0 n)) ?_ ?_ ?_
  · exact ⟨tH, by simp [upd, t0], by simp [upd, t1], by simp [upd, t2], by simp [upd, t3], by simp [upd, t9], fun p q h1 h2 h3 => by omega⟩
  · rintro i u hi ⟨uH, u0, u1, u2, u3, u9, hR⟩
    simp only [go_sem, ↓reduceIte, Nat.reduceEqDiff, reduceCtorEq, Nat.reduceAdd, Nat.reduceLeDiff, Nat.reduceMul, u0, u1, u2, u3, u9]
    refine go_draw ?_
    simp only [go_sem, ↓reduceIte, Nat.reduceEqDiff, reduceCtorEq, Nat.reduceAdd, Nat.reduceLeDiff, Nat.reduceMul, u0, u1, u2, u3, u9]
    cases d1 : decide (((i + 1 : Nat) : Int) < (n : Int)) <;> simp only [go_sem, ↓reduceIte, Nat.reduceEqDiff, reduceCtorEq, Nat.reduceAdd, Nat.reduceLeDiff, Nat.reduceMul, d1, u0, u1, u2, u3, u9]
    · have : i + 1 = n := by have := of_decide_eq_false d1; omega
      refine ⟨by rfl, uH, i + 1, rfl, fun _ => by rw [← this]; exact hR⟩
    have hin : i + 1 < n := by have := of_decide_eq_true d1; omega
    obtain ⟨id, a, o, ho, hr, hpp, _, hia⟩ := hl.gAt (i := i) (by omega)
    obtain ⟨id', a', o', ho', hr', hpp', _, hia'⟩ := hl.gAt (i := i + 1) (by omega)
    have hcmp := cmpR_lt (hg.ok (k := i + 1) (by omega)) (hg.ok (k := i) (by omega))
    have wi : IntKind.i64.wrap (((i + 1 : Nat) : Int) - 1) = (i : Int) := by rw [wrap64 _ (by omega) (by omega)]; omega
    unfold eRw at hr hr'
    simp only [go_sem, ↓reduceIte, Nat.reduceEqDiff, reduceCtorEq, Nat.reduceAdd, Nat.reduceLeDiff, Nat.reduceMul, u0, u1, u2, u3, u9, wi, hia, uH, ho, hr, hpp, hia', ho', hr', hpp', c57', hw]
    refine ⟨by rfl, ?_⟩
    refine brT.intro (fun q2 => ?_) (fun q2 => ?_) <;> simp only [go_sem, ↓reduceIte, Nat.reduceEqDiff, reduceCtorEq, Nat.reduceAdd, Nat.reduceLeDiff, Nat.reduceMul, u0, u1, u2, u3, u9, wrap64 (((i + 1 : Nat) : Int) + 1) (by omega) (by omega)]
    · exact ⟨i + 1, rfl, fun h => by omega⟩
    · have hlt : ltR (gR L i) (gR L (i + 1)) := by
        rcases hg.cmp (p := i) (q := i + 1) (by omega) (by omega) (by omega) with h | h
        · exact h
        · have := hcmp.2 h
          have := of_decide_eq_false q2
          omega
      refine ⟨by omega, by congr 2, fun p q h1 h2 h3 => ?_⟩
      by_cases e : q = i + 1
      · subst e
        by_cases e2 : p = i
        · subst e2; exact hlt
        · exact ltR_trans (hR p i h1 (by omega) (by omega)) hlt
      · exact hR p q h1 h2 (by omega)
  · rintro u ⟨uH, u1, u2, i, u9, hR⟩
    simp only [go_sem, ↓reduceIte, Nat.reduceEqDiff, reduceCtorEq, Nat.reduceAdd, Nat.reduceLeDiff, Nat.reduceMul, u1, u2, u9]
    refine brT.intro (fun q2 => ?_) (fun q2 => ?_) <;> simp only [go_sem, ↓reduceIte, Nat.reduceEqDiff, reduceCtorEq, Nat.reduceAdd, Nat.reduceLeDiff, Nat.reduceMul, u1, u2, u9, wn, d50]
    · have := of_decide_eq_true q2
      exact ⟨⟨true, rfl, fun _ => hR (by omega)⟩, uH⟩
    · exact ⟨⟨false, rfl, fun h => by cases h⟩, uH⟩
end Go.Proofs.Ytjepmnmakemfoaa.Ev

/- Sorting of a table's rows: the partition, and all. -/
namespace Go.Proofs.Ytjepmnmakemfoaa.Ev
set_option linter.all false
open Go
set_option maxRecDepth 4000

/-- Apart around a row. -/
def Sep (L : List Rw) (mid n : Nat) : Prop := (∀ k, k < mid → ltR (gR L k) (gR L mid)) ∧ ∀ k, mid < k → k < n → ltR (gR L mid) (gR L k)
theorem f105 {m : Md} {H : Hp} {v : Value} {L : List Rw} {n p : Nat} (hl : SlRw H v L) (hg : Gd L) (hp0 : 0 < p) (hpn : p + 2 < n) (h20 : n ≤ 20) (hn : n = L.length) (hS : SR L 0 (n - 1)) (hw0 : Wr m H) (hv : ∀ id ∈ idsOf v, m.wr id = true) :
    Fun EE m 105 [v, .int .i64 0, .int .i64 n, .int .i64 p, .func (.func 57) #[] #[]] H fun r H' => ∃ mid b L', r = .tuple #[.int .i64 ((mid : Nat) : Int), .bool b] ∧ p ≤ mid ∧ mid ≤ p + 1 ∧ So H v L L' H' ∧ Sep L' mid n := by
  refine fun_f rfl rfl k105 (by simp [c105]) ?_
  have i0 : 0 < L.length := by omega
  have ip : p < L.length := by omega
  obtain ⟨id, pi, pj, o, ho, hri, hrj, hpi, hpj, hid, hidl, hia, hja, hsw⟩ := hl.swap i0 ip
  have hw1 := hv id (by rw [hid]; simp)
  have hset : ∀ q, (H.set id q)[id]? = some q := fun q => List.getElem?_set_self hidl
  have S1 := (So.refl hl).swap i0 ip hid hsw
  have g1 := swp_g i0 ip
  have n1 := swp_len L 0 p
  have G1 := hg.perm (swp_perm i0 ip)
  have h0 : (((0 : Nat) : Int)) = (0 : Int) := rfl
  have hia : ∀ (s : St) (x y : X), exv s.ρ x = some v → exv s.ρ y = some (.int .i64 0) → iadrK s 3 x y = some (.val (.pointer (some ⟨id, pi, some o.length⟩)), s) := hia
  unfold eRw at hri hrj
  have w1 : IntKind.i64.wrap (0 + 1) = 1 := rfl
  have wn : IntKind.i64.wrap ((n : Int) - 1) = ((n - 1 : Nat) : Int) := by rw [wrap64 _ (by omega) (by omega)]; omega
  have P0 : gR (swp L 0 p) 0 = gR L p := by rw [g1, if_neg (by omega), if_pos rfl]
  have Pp : gR (swp L 0 p) p = gR L 0 := by rw [g1, if_pos rfl]
  have Pk : ∀ k, k ≠ 0 → k ≠ p → gR (swp L 0 p) k = gR L k := fun k h1 h2 => by rw [g1, if_neg h2, if_neg h1]
  have low : ∀ k, k < p → ltR (gR L k) (gR L p) := fun k hk => hS k p (Nat.zero_le _) hk (by omega)
  have high : ∀ k, p < k → k < n - 1 → ltR (gR L p) (gR L k) := fun k h1 h2 => hS p k (Nat.zero_le _) h1 h2
  simp only [go_sem, ↓reduceIte, Nat.reduceEqDiff, reduceCtorEq, Nat.reduceAdd, Nat.reduceLeDiff, Nat.reduceMul, c105]
  refine go_draw ?_
  simp only [go_sem, ↓reduceIte, Nat.reduceEqDiff, reduceCtorEq, Nat.reduceAdd, Nat.reduceLeDiff, Nat.reduceMul, hia, ho, hri, hpi, hja, hrj, hpj, hw1, hset, spl_length, List.set_set]
  refine ⟨by rfl, ?_⟩
  unfold eRw at S1
  generalize H.set id (spl (spl o pi [.int .i64 (gR L p).1, .int .i64 (gR L p).2.1, .int .i64 (gR L p).2.2]) pj [.int .i64 (gR L 0).1, .int .i64 (gR L 0).2.1, .int .i64 (gR L 0).2.2]) = H1 at S1 ⊢
  generalize swp L 0 p = L1 at *
  have wH1 : Wr m H1 := fun j hj => hw0 j (by have := S1.2.2.1; omega)
  have sl1 := S1.1
  obtain ⟨za, zp, zo, zho, zhr, zhp, _, zia⟩ := sl1.gAt (i := 0) (by omega)
  have zia : ∀ (s : St) (x y : X), exv s.ρ x = some v → exv s.ρ y = some (.int .i64 0) → iadrK s 3 x y = some (.val (.pointer (some ⟨za, zp, some zo.length⟩)), s) := zia
  unfold eRw at zhr
  have cmp1 : ∀ k, k < n → (cmpR (gR L1 k) (gR L1 0) < 0 ↔ ltR (gR L1 k) (gR L p)) := fun k hk => by
    have := cmpR_lt (G1.ok (k := k) (by omega)) (G1.ok (k := 0) (by omega))
    rw [P0] at this ⊢
    exact this
  simp only [go_sem, ↓reduceIte, Nat.reduceEqDiff, reduceCtorEq, Nat.reduceAdd, Nat.reduceLeDiff, Nat.reduceMul, w1, wn]
  refine go_for p (fun i t => t.H = H1 ∧ t.ρ 0 = .val v ∧ t.ρ 1 = .val (.int .i64 0) ∧ t.ρ 4 = .val (.func (.func 57) #[] #[]) ∧ t.ρ 12 = .val (.int .i64 ((i + 1 : Nat) : Int)) ∧ t.ρ 13 = .val (.int .i64 ((n - 1 : Nat) : Int)))
    (fun t => t.H = H1 ∧ t.ρ 0 = .val v ∧ t.ρ 1 = .val (.int .i64 0) ∧ t.ρ 4 = .val (.func (.func 57) #[] #[]) ∧ t.ρ 12 = .val (.int .i64 ((p + 1 : Nat) : Int)) ∧ t.ρ 13 = .val (.int .i64 ((n - 1 : Nat) : Int))) ?_ ?_ ?_
  · exact ⟨rfl, by simp [upd, ini], by simp [upd, ini], by simp [upd, ini], by simp [upd], by simp [upd]⟩
  · rintro i t hi ⟨tH, t0, t1, t4, t12, t13⟩
    obtain ⟨ia, ip', io, iho, ihr, ihp, _, iia⟩ := sl1.gAt (i := i + 1) (by omega)
    unfold eRw at ihr
    have d1 : decide (((i + 1 : Nat) : Int) ≤ ((n - 1 : Nat) : Int)) = true := decide_eq_true (by omega)
    simp only [go_sem, ↓reduceIte, Nat.reduceEqDiff, reduceCtorEq, Nat.reduceAdd, Nat.reduceLeDiff, Nat.reduceMul, t0, t1, t4, t12, t13]
    refine go_draw ?_
    simp only [go_sem, ↓reduceIte, Nat.reduceEqDiff, reduceCtorEq, Nat.reduceAdd, Nat.reduceLeDiff, Nat.reduceMul, t0, t1, t4, t12, t13, d1, iia, tH, iho, ihr, ihp, zia, zho, zhr, zhp, c57', wH1]
    have hc := cmp1 (i + 1) (by omega)
    by_cases hip : i < p
    · have hl : ltR (gR L1 (i + 1)) (gR L p) := by
        by_cases e : i + 1 = p
        · rw [e, Pp]; exact low 0 hp0
        · rw [Pk _ (by omega) e]; exact low _ (by omega)
      have d2 : decide (cmpR (gR L1 (i + 1)) (gR L1 0) < 0) = true := decide_eq_true (hc.2 hl)
      simp only [go_sem, ↓reduceIte, Nat.reduceEqDiff, reduceCtorEq, Nat.reduceAdd, Nat.reduceLeDiff, Nat.reduceMul, t0, t1, t4, t12, t13, d2]
      refine ⟨by rfl, ?_⟩
      simp only [go_sem, ↓reduceIte, Nat.reduceEqDiff, reduceCtorEq, Nat.reduceAdd, Nat.reduceLeDiff, Nat.reduceMul, t0, t1, t4, t12, t13, wrap64 (((i + 1 : Nat) : Int) + 1) (by omega) (by omega)]
      exact ⟨hip, by congr 2⟩
    · have e : i = p := by omega
      subst e
      have hl : ¬ ltR (gR L1 (i + 1)) (gR L i) := by
        rw [Pk _ (by omega) (by omega)]
        exact ltR_asymm (high _ (by omega) (by omega))
      have d2 : decide (cmpR (gR L1 (i + 1)) (gR L1 0) < 0) = false := decide_eq_false (fun h => hl (hc.1 h))
      simp only [go_sem, ↓reduceIte, Nat.reduceEqDiff, reduceCtorEq, Nat.reduceAdd, Nat.reduceLeDiff, Nat.reduceMul, t0, t1, t4, t12, t13, d2]
      rfl
  rintro t ⟨tH, t0, t1, t4, t12, t13⟩
  simp only [go_sem, ↓reduceIte, Nat.reduceEqDiff, reduceCtorEq, Nat.reduceAdd, Nat.reduceLeDiff, Nat.reduceMul, t0, t1, t4, t12, t13]
  have hx := hg.cmp (p := p) (q := n - 1) (by omega) (by omega) (by omega)
  by_cases hgt : ltR (gR L p) (gR L (n - 1))
  · -- the last row lies behind
    refine go_for (n - 1 - p) (fun i t => t.H = H1 ∧ t.ρ 0 = .val v ∧ t.ρ 1 = .val (.int .i64 0) ∧ t.ρ 4 = .val (.func (.func 57) #[] #[]) ∧ t.ρ 12 = .val (.int .i64 ((p + 1 : Nat) : Int)) ∧ t.ρ 13 = .val (.int .i64 ((n - 1 - i : Nat) : Int)))
      (fun t => t.H = H1 ∧ t.ρ 0 = .val v ∧ t.ρ 1 = .val (.int .i64 0) ∧ t.ρ 12 = .val (.int .i64 ((p + 1 : Nat) : Int)) ∧ t.ρ 13 = .val (.int .i64 ((p : Nat) : Int))) ?_ ?_ ?_
    · exact ⟨tH, by simp [upd, t0], by simp [upd, t1], by simp [upd, t4], by simp [upd, t12], by simp [upd, t13]⟩
    · rintro i t hi ⟨tH, t0, t1, t4, t12, t13⟩
      simp only [go_sem, ↓reduceIte, Nat.reduceEqDiff, reduceCtorEq, Nat.reduceAdd, Nat.reduceLeDiff, Nat.reduceMul, t0, t1, t4, t12, t13]
      refine go_draw ?_
      simp only [go_sem, ↓reduceIte, Nat.reduceEqDiff, reduceCtorEq, Nat.reduceAdd, Nat.reduceLeDiff, Nat.reduceMul, t0, t1, t4, t12, t13]
      cases d1 : decide (((p + 1 : Nat) : Int) ≤ ((n - 1 - i : Nat) : Int)) <;> simp only [go_sem, ↓reduceIte, Nat.reduceEqDiff, reduceCtorEq, Nat.reduceAdd, Nat.reduceLeDiff, Nat.reduceMul, t0, t1, t4, t12, t13, d1]
      · have : n - 1 - i = p := by have := of_decide_eq_false d1; omega
        refine ⟨by rfl, tH, by rw [this]⟩
      have hk : p + 1 ≤ n - 1 - i := by have := of_decide_eq_true d1; omega
      obtain ⟨ia, ip', io, iho, ihr, ihp, _, iia⟩ := sl1.gAt (i := n - 1 - i) (by omega)
      unfold eRw at ihr
      have hl : ¬ ltR (gR L1 (n - 1 - i)) (gR L p) := by
        rw [Pk _ (by omega) (by omega)]
        by_cases e : i = 0
        · subst e; exact ltR_asymm hgt
        · exact ltR_asymm (high _ (by omega) (by omega))
      have d2 : decide (cmpR (gR L1 (n - 1 - i)) (gR L1 0) < 0) = false := decide_eq_false (fun h => hl ((cmp1 _ (by omega)).1 h))
      have wk : IntKind.i64.wrap (((n - 1 - i : Nat) : Int) - 1) = ((n - 1 - (i + 1) : Nat) : Int) := by rw [wrap64 _ (by omega) (by omega)]; omega
      simp only [go_sem, ↓reduceIte, Nat.reduceEqDiff, reduceCtorEq, Nat.reduceAdd, Nat.reduceLeDiff, Nat.reduceMul, t0, t1, t4, t12, t13, iia, tH, iho, ihr, ihp, zia, zho, zhr, zhp, c57', wH1, d2]
      refine ⟨by rfl, ?_⟩
      simp only [go_sem, ↓reduceIte, Nat.reduceEqDiff, reduceCtorEq, Nat.reduceAdd, Nat.reduceLeDiff, Nat.reduceMul, t0, t1, t4, t12, t13, wk]
      omega
    · rintro t ⟨tH, t0, t1, t12, t13⟩
      have d1 : decide (((p + 1 : Nat) : Int) > ((p : Nat) : Int)) = true := decide_eq_true (by omega)
      obtain ⟨id, pi, pj, o, ho, hri, hrj, hpi, hpj, hid, hidl, hia, hja, hsw⟩ := sl1.swap (i := p) (j := 0) (by omega) (by omega)
      have hja : ∀ (s : St) (x y : X), exv s.ρ x = some v → exv s.ρ y = some (.int .i64 0) → iadrK s 3 x y = some (.val (.pointer (some ⟨id, pj, some o.length⟩)), s) := hja
      have hw1 := hv id (by rw [hid]; simp)
      have hset : ∀ q, (H1.set id q)[id]? = some q := fun q => List.getElem?_set_self hidl
      have S2 := S1.swap (i := p) (j := 0) (by omega) (by omega) hid hsw
      have g2 := fun k => swp_g (L := L1) (i := p) (j := 0) (by omega) (by omega) k
      unfold eRw at hri hrj S2
      simp only [go_sem, ↓reduceIte, Nat.reduceEqDiff, reduceCtorEq, Nat.reduceAdd, Nat.reduceLeDiff, Nat.reduceMul, t0, t1, t12, t13, d1]
      refine go_draw ?_
      simp only [go_sem, ↓reduceIte, Nat.reduceEqDiff, reduceCtorEq, Nat.reduceAdd, Nat.reduceLeDiff, Nat.reduceMul, t0, t1, t12, t13, hia, tH, ho, hri, hpi, hja, hrj, hpj, hw1, hset, spl_length, List.set_set]
      refine ⟨by rfl, ?_⟩
      refine ⟨p, true, _, rfl, Nat.le_refl _, by omega, S2, ?_⟩
      have q0 : ∀ k, gR (swp L1 p 0) k = gR L k := fun k => by
        rw [g2]
        by_cases e1 : k = 0
        · subst e1; rw [if_pos rfl, Pp]
        · rw [if_neg e1]
          by_cases e2 : k = p
          · subst e2; rw [if_pos rfl, P0]
          · rw [if_neg e2, Pk k e1 e2]
      refine ⟨fun k hk => by rw [q0, q0]; exact low k hk, fun k h1 h2 => by
        rw [q0, q0]
        by_cases e : k = n - 1
        · subst e; exact hgt
        · exact high k h1 (by omega)⟩
  · have hlt : ltR (gR L (n - 1)) (gR L p) := by
      rcases hx with h | h
      · exact absurd h hgt
      · exact h
    refine go_for 0 (fun i t => t.H = H1 ∧ t.ρ 0 = .val v ∧ t.ρ 1 = .val (.int .i64 0) ∧ t.ρ 4 = .val (.func (.func 57) #[] #[]) ∧ t.ρ 12 = .val (.int .i64 ((p + 1 : Nat) : Int)) ∧ t.ρ 13 = .val (.int .i64 ((n - 1 : Nat) : Int)))
      (fun t => t.H = H1 ∧ t.ρ 0 = .val v ∧ t.ρ 1 = .val (.int .i64 0) ∧ t.ρ 4 = .val (.func (.func 57) #[] #[]) ∧ t.ρ 12 = .val (.int .i64 ((p + 1 : Nat) : Int)) ∧ t.ρ 13 = .val (.int .i64 ((n - 1 : Nat) : Int))) ?_ ?_ ?_
    · exact ⟨tH, by simp [upd, t0], by simp [upd, t1], by simp [upd, t4], by simp [upd, t12], by simp [upd, t13]⟩
    · rintro i t hi ⟨tH, t0, t1, t4, t12, t13⟩
      have d1 : decide (((p + 1 : Nat) : Int) ≤ ((n - 1 : Nat) : Int)) = true := decide_eq_true (by omega)
      obtain ⟨ia, ip', io, iho, ihr, ihp, _, iia⟩ := sl1.gAt (i := n - 1) (by omega)
      unfold eRw at ihr
      have d2 : decide (cmpR (gR L1 (n - 1)) (gR L1 0) < 0) = true := decide_eq_true ((cmp1 _ (by omega)).2 (by rw [Pk _ (by omega) (by omega)]; exact hlt))
      simp only [go_sem, ↓reduceIte, Nat.reduceEqDiff, reduceCtorEq, Nat.reduceAdd, Nat.reduceLeDiff, Nat.reduceMul, t0, t1, t4, t12, t13]
      refine go_draw ?_
      simp only [go_sem, ↓reduceIte, Nat.reduceEqDiff, reduceCtorEq, Nat.reduceAdd, Nat.reduceLeDiff, Nat.reduceMul, t0, t1, t4, t12, t13, d1, iia, tH, iho, ihr, ihp, zia, zho, zhr, zhp, c57', wH1, d2]
      rfl
    rintro t ⟨tH, t0, t1, t4, t12, t13⟩
    have d1 : decide (((p + 1 : Nat) : Int) > ((n - 1 : Nat) : Int)) = false := decide_eq_false (by omega)
    obtain ⟨id, pi, pj, o, ho, hri, hrj, hpi, hpj, hid, hidl, hia, hja, hsw⟩ := sl1.swap (i := p + 1) (j := n - 1) (by omega) (by omega)
    have hw1 := hv id (by rw [hid]; simp)
    have hset : ∀ q, (H1.set id q)[id]? = some q := fun q => List.getElem?_set_self hidl
    have S2 := S1.swap (i := p + 1) (j := n - 1) (by omega) (by omega) hid hsw
    have g2 := fun k => swp_g (L := L1) (i := p + 1) (j := n - 1) (by omega) (by omega) k
    have n2 := swp_len L1 (p + 1) (n - 1)
    have G2 := G1.perm (swp_perm (L := L1) (i := p + 1) (j := n - 1) (by omega) (by omega))
    have wp : IntKind.i64.wrap (((p + 1 : Nat) : Int) + 1) = ((p + 2 : Nat) : Int) := by rw [wrap64 _ (by omega) (by omega)]; omega
    have wq : IntKind.i64.wrap (((n - 1 : Nat) : Int) - 1) = ((n - 2 : Nat) : Int) := by rw [wrap64 _ (by omega) (by omega)]; omega
    unfold eRw at hri hrj S2
    simp only [go_sem, ↓reduceIte, Nat.reduceEqDiff, reduceCtorEq, Nat.reduceAdd, Nat.reduceLeDiff, Nat.reduceMul, t0, t1, t4, t12, t13, d1]
    refine go_draw ?_
    simp only [go_sem, ↓reduceIte, Nat.reduceEqDiff, reduceCtorEq, Nat.reduceAdd, Nat.reduceLeDiff, Nat.reduceMul, t0, t1, t4, t12, t13, hia, tH, ho, hri, hpi, hja, hrj, hpj, hw1, hset, spl_length, List.set_set]
    refine ⟨by rfl, ?_⟩
    generalize H1.set id (spl (spl o pi [.int .i64 (gR L1 (n - 1)).1, .int .i64 (gR L1 (n - 1)).2.1, .int .i64 (gR L1 (n - 1)).2.2]) pj [.int .i64 (gR L1 (p + 1)).1, .int .i64 (gR L1 (p + 1)).2.1, .int .i64 (gR L1 (p + 1)).2.2]) = H2 at S2 ⊢
    have Q0 : gR (swp L1 (p + 1) (n - 1)) 0 = gR L p := by rw [g2, if_neg (by omega), if_neg (by omega), P0]
    have Qp : gR (swp L1 (p + 1) (n - 1)) p = gR L 0 := by rw [g2, if_neg (by omega), if_neg (by omega), Pp]
    have Qm : gR (swp L1 (p + 1) (n - 1)) (p + 1) = gR L (n - 1) := by rw [g2, if_neg (by omega), if_pos rfl, Pk _ (by omega) (by omega)]
    have Qn : gR (swp L1 (p + 1) (n - 1)) (n - 1) = gR L (p + 1) := by rw [g2, if_pos rfl, Pk _ (by omega) (by omega)]
    have Qk : ∀ k, k ≠ 0 → k ≠ p → k ≠ p + 1 → k ≠ n - 1 → gR (swp L1 (p + 1) (n - 1)) k = gR L k := fun k h1 h2 h3 h4 => by rw [g2, if_neg h4, if_neg h3, Pk k h1 h2]
    generalize swp L1 (p + 1) (n - 1) = L2 at *
    have sl2 := S2.1
    have wH2 : Wr m H2 := fun j hj => hw0 j (by have := S2.2.2.1; omega)
    obtain ⟨za, zp, zo, zho, zhr, zhp, _, zia⟩ := sl2.gAt (i := 0) (by omega)
    have zia : ∀ (s : St) (x y : X), exv s.ρ x = some v → exv s.ρ y = some (.int .i64 0) → iadrK s 3 x y = some (.val (.pointer (some ⟨za, zp, some zo.length⟩)), s) := zia
    unfold eRw at zhr
    have cmp2 : ∀ k, k < n → (cmpR (gR L2 k) (gR L2 0) < 0 ↔ ltR (gR L2 k) (gR L p)) := fun k hk => by
      have := cmpR_lt (G2.ok (k := k) (by omega)) (G2.ok (k := 0) (by omega))
      rw [Q0] at this ⊢
      exact this
    simp only [go_sem, ↓reduceIte, Nat.reduceEqDiff, reduceCtorEq, Nat.reduceAdd, Nat.reduceLeDiff, Nat.reduceMul, t0, t1, t4, t12, t13, wp, wq]
    refine go_for 0 (fun i t => t.H = H2 ∧ t.ρ 0 = .val v ∧ t.ρ 1 = .val (.int .i64 0) ∧ t.ρ 4 = .val (.func (.func 57) #[] #[]) ∧ t.ρ 12 = .val (.int .i64 ((p + 2 : Nat) : Int)) ∧ t.ρ 13 = .val (.int .i64 ((n - 2 : Nat) : Int)))
      (fun t => t.H = H2 ∧ t.ρ 0 = .val v ∧ t.ρ 1 = .val (.int .i64 0) ∧ t.ρ 13 = .val (.int .i64 ((p + 1 : Nat) : Int))) ?_ ?_ ?_
    · exact ⟨rfl, by simp [upd, t0], by simp [upd, t1], by simp [upd, t4], by simp [upd], by simp [upd]⟩
    · rintro i0' t hi ⟨tH, t0, t1, t4, t12, t13⟩
      simp only [go_sem, ↓reduceIte, Nat.reduceEqDiff, reduceCtorEq, Nat.reduceAdd, Nat.reduceLeDiff, Nat.reduceMul, t0, t1, t4, t12, t13]
      refine go_for 0 (fun i t => t.H = H2 ∧ t.ρ 0 = .val v ∧ t.ρ 1 = .val (.int .i64 0) ∧ t.ρ 4 = .val (.func (.func 57) #[] #[]) ∧ t.ρ 12 = .val (.int .i64 ((p + 2 : Nat) : Int)) ∧ t.ρ 13 = .val (.int .i64 ((n - 2 : Nat) : Int)))
        (fun t => t.H = H2 ∧ t.ρ 0 = .val v ∧ t.ρ 1 = .val (.int .i64 0) ∧ t.ρ 4 = .val (.func (.func 57) #[] #[]) ∧ t.ρ 12 = .val (.int .i64 ((p + 2 : Nat) : Int)) ∧ t.ρ 13 = .val (.int .i64 ((n - 2 : Nat) : Int))) ?_ ?_ ?_
      · exact ⟨tH, by simp [upd, t0], by simp [upd, t1], by simp [upd, t4], by simp [upd, t12], by simp [upd, t13]⟩
      · rintro i t hi ⟨tH, t0, t1, t4, t12, t13⟩
        simp only [go_sem, ↓reduceIte, Nat.reduceEqDiff, reduceCtorEq, Nat.reduceAdd, Nat.reduceLeDiff, Nat.reduceMul, t0, t1, t4, t12, t13]
        refine go_draw ?_
        simp only [go_sem, ↓reduceIte, Nat.reduceEqDiff, reduceCtorEq, Nat.reduceAdd, Nat.reduceLeDiff, Nat.reduceMul, t0, t1, t4, t12, t13]
        cases d1 : decide (((p + 2 : Nat) : Int) ≤ ((n - 2 : Nat) : Int)) <;> simp only [go_sem, ↓reduceIte, Nat.reduceEqDiff, reduceCtorEq, Nat.reduceAdd, Nat.reduceLeDiff, Nat.reduceMul, t0, t1, t4, t12, t13, d1]
        · exact ⟨by rfl, tH⟩
        have hk : p + 2 ≤ n - 2 := by have := of_decide_eq_true d1; omega
        obtain ⟨ia, ip', io, iho, ihr, ihp, _, iia⟩ := sl2.gAt (i := p + 2) (by omega)
        unfold eRw at ihr
        have d2 : decide (cmpR (gR L2 (p + 2)) (gR L2 0) < 0) = false := decide_eq_false (fun h => ltR_asymm (high (p + 2) (by omega) (by omega)) (by
          have := (cmp2 _ (by omega)).1 h
          rw [Qk _ (by omega) (by omega) (by omega) (by omega)] at this
          exact this))
        simp only [go_sem, ↓reduceIte, Nat.reduceEqDiff, reduceCtorEq, Nat.reduceAdd, Nat.reduceLeDiff, Nat.reduceMul, t0, t1, t4, t12, t13, iia, tH, iho, ihr, ihp, zia, zho, zhr, zhp, c57', wH2, d2]
        rfl
      rintro t ⟨tH, t0, t1, t4, t12, t13⟩
      simp only [go_sem, ↓reduceIte, Nat.reduceEqDiff, reduceCtorEq, Nat.reduceAdd, Nat.reduceLeDiff, Nat.reduceMul, t0, t1, t4, t12, t13]
      refine go_for (n - 3 - p) (fun i t => t.H = H2 ∧ t.ρ 0 = .val v ∧ t.ρ 1 = .val (.int .i64 0) ∧ t.ρ 4 = .val (.func (.func 57) #[] #[]) ∧ t.ρ 12 = .val (.int .i64 ((p + 2 : Nat) : Int)) ∧ t.ρ 13 = .val (.int .i64 ((n - 2 - i : Nat) : Int)))
        (fun t => t.H = H2 ∧ t.ρ 0 = .val v ∧ t.ρ 1 = .val (.int .i64 0) ∧ t.ρ 12 = .val (.int .i64 ((p + 2 : Nat) : Int)) ∧ t.ρ 13 = .val (.int .i64 ((p + 1 : Nat) : Int))) ?_ ?_ ?_
      · exact ⟨tH, by simp [upd, t0], by simp [upd, t1], by simp [upd, t4], by simp [upd, t12], by simp [upd, t13]⟩
      · rintro i t hi ⟨tH, t0, t1, t4, t12, t13⟩
        simp only [go_sem, ↓reduceIte, Nat.reduceEqDiff, reduceCtorEq, Nat.reduceAdd, Nat.reduceLeDiff, Nat.reduceMul, t0, t1, t4, t12, t13]
        refine go_draw ?_
        simp only [go_sem, ↓reduceIte, Nat.reduceEqDiff, reduceCtorEq, Nat.reduceAdd, Nat.reduceLeDiff, Nat.reduceMul, t0, t1, t4, t12, t13]
        cases d1 : decide (((p + 2 : Nat) : Int) ≤ ((n - 2 - i : Nat) : Int)) <;> simp only [go_sem, ↓reduceIte, Nat.reduceEqDiff, reduceCtorEq, Nat.reduceAdd, Nat.reduceLeDiff, Nat.reduceMul, t0, t1, t4, t12, t13, d1]
        · have : n - 2 - i = p + 1 := by have := of_decide_eq_false d1; omega
          exact ⟨by rfl, tH, by rw [this]⟩
        have hk : p + 2 ≤ n - 2 - i := by have := of_decide_eq_true d1; omega
        obtain ⟨ia, ip', io, iho, ihr, ihp, _, iia⟩ := sl2.gAt (i := n - 2 - i) (by omega)
        unfold eRw at ihr
        have d2 : decide (cmpR (gR L2 (n - 2 - i)) (gR L2 0) < 0) = false := decide_eq_false (fun h => ltR_asymm (high (n - 2 - i) (by omega) (by omega)) (by
          have := (cmp2 _ (by omega)).1 h
          rw [Qk _ (by omega) (by omega) (by omega) (by omega)] at this
          exact this))
        have wk : IntKind.i64.wrap (((n - 2 - i : Nat) : Int) - 1) = ((n - 2 - (i + 1) : Nat) : Int) := by rw [wrap64 _ (by omega) (by omega)]; omega
        simp only [go_sem, ↓reduceIte, Nat.reduceEqDiff, reduceCtorEq, Nat.reduceAdd, Nat.reduceLeDiff, Nat.reduceMul, t0, t1, t4, t12, t13, iia, tH, iho, ihr, ihp, zia, zho, zhr, zhp, c57', wH2, d2]
        refine ⟨by rfl, ?_⟩
        simp only [go_sem, ↓reduceIte, Nat.reduceEqDiff, reduceCtorEq, Nat.reduceAdd, Nat.reduceLeDiff, Nat.reduceMul, t0, t1, t4, t12, t13, wk]
        omega
      · rintro t ⟨tH, t0, t1, t12, t13⟩
        have d1 : decide (((p + 2 : Nat) : Int) > ((p + 1 : Nat) : Int)) = true := decide_eq_true (by omega)
        simp only [go_sem, ↓reduceIte, Nat.reduceEqDiff, reduceCtorEq, Nat.reduceAdd, Nat.reduceLeDiff, Nat.reduceMul, t0, t1, t12, t13, d1]
        exact tH
    · rintro t ⟨tH, t0, t1, t13⟩
      obtain ⟨id, pi, pj, o, ho, hri, hrj, hpi, hpj, hid, hidl, hia, hja, hsw⟩ := sl2.swap (i := p + 1) (j := 0) (by omega) (by omega)
      have hja : ∀ (s : St) (x y : X), exv s.ρ x = some v → exv s.ρ y = some (.int .i64 0) → iadrK s 3 x y = some (.val (.pointer (some ⟨id, pj, some o.length⟩)), s) := hja
      have hw1 := hv id (by rw [hid]; simp)
      have hset : ∀ q, (H2.set id q)[id]? = some q := fun q => List.getElem?_set_self hidl
      have S3 := S2.swap (i := p + 1) (j := 0) (by omega) (by omega) hid hsw
      have g3 := fun k => swp_g (L := L2) (i := p + 1) (j := 0) (by omega) (by omega) k
      unfold eRw at hri hrj S3
      simp only [go_sem, ↓reduceIte, Nat.reduceEqDiff, reduceCtorEq, Nat.reduceAdd, Nat.reduceLeDiff, Nat.reduceMul, t0, t1, t13]
      refine go_draw ?_
      simp only [go_sem, ↓reduceIte, Nat.reduceEqDiff, reduceCtorEq, Nat.reduceAdd, Nat.reduceLeDiff, Nat.reduceMul, t0, t1, t13, hia, tH, ho, hri, hpi, hja, hrj, hpj, hw1, hset, spl_length, List.set_set]
      refine ⟨by rfl, ?_⟩
      refine ⟨p + 1, false, _, rfl, by omega, Nat.le_refl _, S3, ?_⟩
      have rm : gR (swp L2 (p + 1) 0) (p + 1) = gR L p := by rw [g3, if_neg (by omega), if_pos rfl, Q0]
      refine ⟨fun k hk => ?_, fun k h1 h2 => ?_⟩
      · rw [rm, g3]
        by_cases e1 : k = 0
        · rw [if_pos e1, Qm]; exact hlt
        · rw [if_neg e1, if_neg (by omega)]
          by_cases e2 : k = p
          · rw [e2, Qp]; exact low 0 hp0
          · rw [Qk _ e1 e2 (by omega) (by omega)]; exact low k (by omega)
      · rw [rm, g3, if_neg (by omega), if_neg (by omega)]
        by_cases e1 : k = n - 1
        · rw [e1, Qn]; exact high _ (by omega) (by omega)
        · rw [Qk _ (by omega) (by omega) (by omega) e1]; exact high k (by omega) (by omega)
end Go.Proofs.Ytjepmnmakemfoaa.Ev
