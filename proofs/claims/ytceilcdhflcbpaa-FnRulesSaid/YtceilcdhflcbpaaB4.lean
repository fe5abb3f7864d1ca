/- Texts of this proof, laid one behind the other: what each shows stands at its head. -/
import Derived.Test.YtceilcdhflcbpaaB3
import Derived.Test.YtceilcdhflcbpaaRows
import Derived.Test.YtceilcdhflcbpaaProg
import Derived.Shelf.Sort.Plain
import Derived.Shelf.Slices.In.SortNone
/- Haves: what a right one is; flags by division. -/
namespace Go.Proofs.Ytceilcdhflcbpaa.Ev
set_option linter.all false
open Go
set_option maxRecDepth 4000

def ScalP (E : Env) (f : Nat) (vs : List Value) (H : Hp) (P : Value → Prop) : Prop := ∀ m : Md, Wr m H → Fun E m f vs H fun r H' => P r ∧ H' = H
theorem scalP_ok {E : Env} {f : Nat} {cf : CF} {vs : List Value} {H : Hp} {P : Value → Prop} (ht : E.tr f = true) (hp : E.prim f = none) (hf : E.fns f = some cf) (hl : vs.length ≤ cf.nt)
    (h : ∀ m : Md, Wr m H → go E m [.c cf.body] { ρ := ini vs, gn := 0, H := H } (Post cf.res true H fun r H' => P r ∧ H' = H)) : ScalP E f vs H P := fun m hw => fun_ok ht hp hf hl (h _ hw)
theorem callT_now {E : Env} {m : Md} {f : Nat} {vs : List Value} {P : Value → Hp → Prop} {s : St} {d : Option Nat} {ts : List Tk} {Q : Ex → St → Prop} (h : Fun E m f vs s.H P)
    (hq : ∀ r H', P r H' → go E m ts { s with H := H', ρ := upd s.ρ d (.val r) } Q) : callT E m false f (some vs) s d ts Q := by
  unfold callT opt
  exact h.mono hq
def FreshS {α : Type} (enc : α → List Value) (esz : Nat) (H : Hp) (v : Value) (H' : Hp) (l : List α) : Prop := H <+: H' ∧ Sl (En enc) esz H' v l ∧ OwnS H.length v
theorem own_ge {N : Nat} {v : Value} (h : OwnS N v) : ∀ j ∈ idsOf v, N ≤ j := fun j hj => by
  rcases h with rfl | ⟨id, e, len, cap, rfl, hid⟩
  · simp [idsOf] at hj
  · simp [idsOf] at hj; omega
theorem own_notin {x N : Nat} {v : Value} (h : OwnS N v) (hx : x < N) : x ∉ idsOf v := fun hm => by have := own_ge h x hm; omega
theorem OwnS.mono {N N' : Nat} {v : Value} (h : OwnS N v) (hn : N' ≤ N) : OwnS N' v := by
  rcases h with h | ⟨id, e, ln, cap, h, hid⟩
  · exact .inl h
  · exact .inr ⟨id, e, ln, cap, h, by omega⟩

def inB (a b c : Int) : Bool := decide (a ≥ b) && decide (a ≤ c)
theorem inB_t {a b c : Int} : inB a b c = true ↔ b ≤ a ∧ a ≤ c := by simp [inB]
theorem f45 {H : Hp} {a b c : Int} : Scal EE 45 [.int .i64 a, .int .i64 b, .int .i64 c] H (.bool (inB a b c)) := by
  refine scal_ok rfl rfl k45 (by simp [c45]) rfl fun m hw => ?_
  unfold inB
  simp only [go_sem, ↓reduceIte, Nat.reduceEqDiff, reduceCtorEq, Nat.reduceAdd, Nat.reduceLeDiff, Nat.reduceMul, c45]
  refine brT.intro (fun q => ?_) (fun q => ?_) <;> simp only [go_sem, ↓reduceIte, Nat.reduceEqDiff, reduceCtorEq, Nat.reduceAdd, Nat.reduceLeDiff, Nat.reduceMul, q]
theorem c45' {m : Md} {draw : Bool} {s : St} {d : Option Nat} {ts : List Tk} {Q : Ex → St → Prop} {a b c : Int} (hw : Wr m s.H) :
    callT EE m draw 45 (some [.int .i64 a, .int .i64 b, .int .i64 c]) s d ts Q = go EE m ts { s with ρ := upd s.ρ d (.val (.bool (inB a b c))) } Q := callT_at f45 rfl hw
theorem f48 {H : Hp} {a b c : Int} : Scal EE 48 [.int .i64 a, .int .i64 b, .int .i64 c] H (.bool (inB a b c)) := by
  refine scal_ok rfl rfl k48 (by simp [c48]) rfl fun m hw => ?_
  unfold inB
  simp only [go_sem, ↓reduceIte, Nat.reduceEqDiff, reduceCtorEq, Nat.reduceAdd, Nat.reduceLeDiff, Nat.reduceMul, c48]
  refine brT.intro (fun q => ?_) (fun q => ?_) <;> simp only [go_sem, ↓reduceIte, Nat.reduceEqDiff, reduceCtorEq, Nat.reduceAdd, Nat.reduceLeDiff, Nat.reduceMul, q]
theorem c48' {m : Md} {draw : Bool} {s : St} {d : Option Nat} {ts : List Tk} {Q : Ex → St → Prop} {a b c : Int} (hw : Wr m s.H) :
    callT EE m draw 48 (some [.int .i64 a, .int .i64 b, .int .i64 c]) s d ts Q = go EE m ts { s with ρ := upd s.ρ d (.val (.bool (inB a b c))) } Q := callT_at f48 rfl hw
/-- Of m's flags below b, has n all? -/
def under (m n b : Nat) : Bool := decide (∀ j, j < b → m.testBit j = true → n.testBit j = true)
end Go.Proofs.Ytceilcdhflcbpaa.Ev

/- Right rows of haves. -/
namespace Go.Proofs.Ytceilcdhflcbpaa.Ev
set_option linter.all false
open Go
set_option maxRecDepth 4000

end Go.Proofs.Ytceilcdhflcbpaa.Ev

/- The best have, both ways. -/
namespace Go.Proofs.Ytceilcdhflcbpaa.Ev
set_option linter.all false
open Go
set_option maxRecDepth 4000

end Go.Proofs.Ytceilcdhflcbpaa.Ev

/- Haves put away, and those that are over. -/
namespace Go.Proofs.Ytceilcdhflcbpaa.Ev
set_option linter.all false
open Go
set_option maxRecDepth 4000

end Go.Proofs.Ytceilcdhflcbpaa.Ev

/- Draws: the cursor, numbers, choices and texts drawn by it. -/
namespace Go.Proofs.Ytceilcdhflcbpaa.Ev
set_option linter.all false
open Go
set_option maxRecDepth 4000

theorem fun_t {E : Env} {m : Md} {f : Nat} {cf : CF} {vs : List Value} {H : Hp} {Q : Value → Hp → Prop} (ht : E.tr f = true) (hp : E.prim f = none) (hf : E.fns f = some cf) (hl : vs.length ≤ cf.nt)
    (h : ∀ m' : Md, (∀ id, m'.wr id = m.wr id) → go E m' [.c cf.body] { ρ := ini vs, gn := 0, H := H } (Post cf.res true H Q)) : Fun E m f vs H Q :=
  fun_ok ht hp hf hl (h _ fun _ => rfl)
theorem callD {E : Env} {m : Md} {f : Nat} {vs : List Value} {H : Hp} {P : Value → Hp → Prop} {s : St} {d : Option Nat} {ts : List Tk} {Q : Ex → St → Prop} (h : Fun E m f vs H P) (hH : s.H = H)
    (hq : ∀ r H', P r H' → go E m ts { s with H := H', ρ := upd s.ρ d (.val r) } Q) : callT E m false f (some vs) s d ts Q := by
  subst hH
  unfold callT opt
  exact h.mono hq

def eU (n : Int) : List Value := [.int .u8 n]
abbrev SlU (H : Hp) (v : Value) (l : List Int) : Prop := Sl (En eU) 1 H v l
theorem Sl.byte {H : Hp} {v : Value} {l : List Int} (h : SlU H v l) {i : Nat} {a : Int} (hi : l[i]? = some a) : ∃ id p o, H[id]? = some o ∧ o[p]? = some (.int .u8 a) ∧
    ∀ (s : St) (x y : X), exv s.ρ x = some v → exv s.ρ y = some (.int .i64 i) → iadrK s 1 x y = some (.val (.pointer (some ⟨id, p, some o.length⟩)), s) := by
  obtain ⟨id, p, o, ho, hr, hp, hia⟩ := h.elem hi
  unfold En at hr
  exact ⟨id, p, o, ho, by simpa [eU] using getElem?_of_take hr (j := 0) (by omega), hia⟩

/-- A cursor over a draw's bytes. -/
def Cur (H : Hp) (c : Value) (id : Nat) : Prop := c = .pointer (some ⟨id, 0, some 3⟩) ∧ ∃ b i h bl, H[id]? = some [b, .int .i64 i, .int .i64 h] ∧ SlU H b bl ∧ 0 ≤ i ∧ ∀ j ∈ idsOf b, j < id
/-- The cursor has gone on; no more has been done. -/
def CS (H H' : Hp) (c : Value) (id : Nat) : Prop := Cur H' c id ∧ (∀ j, j ≠ id → H'[j]? = H[j]?) ∧ H'.length = H.length
/-- The cursor has gone on; new rows have come. -/
def CX (H H' : Hp) (c : Value) (id : Nat) : Prop := Cur H' c id ∧ (∀ j, j < H.length → j ≠ id → H'[j]? = H[j]?) ∧ H.length ≤ H'.length

theorem CS.trans {H H' H'' : Hp} {c : Value} {id : Nat} (h : CS H H' c id) (k : CS H' H'' c id) : CS H H'' c id := ⟨k.1, fun j hj => (k.2.1 j hj).trans (h.2.1 j hj), k.2.2.trans h.2.2⟩
theorem CS.cx {H H' : Hp} {c : Value} {id : Nat} (h : CS H H' c id) : CX H H' c id := ⟨h.1, fun j _ hj => h.2.1 j hj, by have := h.2.2; omega⟩
theorem CX.trans {H H' H'' : Hp} {c : Value} {id : Nat} (h : CX H H' c id) (k : CX H' H'' c id) : CX H H'' c id := ⟨k.1, fun j hl hj => (k.2.1 j (by have := h.2.2; omega) hj).trans (h.2.1 j hl hj), Nat.le_trans h.2.2 k.2.2⟩
theorem CX.refl {H : Hp} {c : Value} {id : Nat} (h : Cur H c id) : CX H H c id := ⟨h, fun _ _ _ => rfl, Nat.le_refl _⟩
theorem Sl.cs {α : Type} {R : α → List Value → Prop} {esz : Nat} {H H' : Hp} {v c : Value} {l : List α} {id : Nat} (h : Sl R esz H v l) (hc : CS H H' c id) (hid : id ∉ idsOf v) : Sl R esz H' v l :=
  h.frame (fun _ _ _ h => h) fun i off e ln cap hv => hc.2.1 i (fun e2 => hid (by subst hv; subst e2; simp [idsOf]))
theorem Sl.cx {α : Type} {R : α → List Value → Prop} {esz : Nat} {H H' : Hp} {v c : Value} {l : List α} {id : Nat} (h : Sl R esz H v l) (hc : CX H H' c id) (hid : id ∉ idsOf v) : Sl R esz H' v l :=
  h.frame (fun _ _ _ h => h) fun i off e ln cap hv => hc.2.1 i (h.ids i (by subst hv; simp [idsOf])) (fun e2 => hid (by subst hv; subst e2; simp [idsOf]))

theorem Cur.keep {H H' : Hp} {c : Value} {id : Nat} (h : Cur H c id) (hk : ∀ j, j ≤ id → H'[j]? = H[j]?) : Cur H' c id := by
  obtain ⟨rfl, b, i, g, bl, hid, hb, hi, hnb⟩ := h
  exact ⟨rfl, b, i, g, bl, by rw [hk id (Nat.le_refl _)]; exact hid, hb.frame (fun _ _ _ h => h) (fun x off e ln cap hv => hk x (Nat.le_of_lt (hnb x (by subst hv; simp [idsOf])))), hi, hnb⟩
theorem Cur.lt {H : Hp} {c : Value} {id : Nat} (h : Cur H c id) : id < H.length := by
  obtain ⟨rfl, b, i, g, bl, hid, _⟩ := h
  exact (List.getElem?_eq_some_iff.1 hid).1
theorem Cur.pre {H H' : Hp} {c : Value} {id : Nat} (h : Cur H c id) (hp : H <+: H') : Cur H' c id := h.keep fun j hj => pre_get hp (by have := h.lt; omega)
theorem CX.ofPre {H H' : Hp} {c : Value} {id : Nat} (h : Cur H c id) (hp : H <+: H') : CX H H' c id := ⟨h.pre hp, fun j hj _ => pre_get hp hj, hp.length_le⟩
/-- Rows of one's own have changed; the cursor hasn't. -/
theorem CX.own {H H1 H' : Hp} {c : Value} {id : Nat} (h : CX H H1 c id) (hid : id < H.length) (hk : ∀ j, j < H.length → H'[j]? = H1[j]?) (hl : H1.length ≤ H'.length) : CX H H' c id :=
  ⟨h.1.keep fun j hj => hk j (by omega), fun j hj hne => (hk j hj).trans (h.2.1 j hj hne), Nat.le_trans h.2.2 hl⟩
theorem CX.cut {H H' : Hp} {c : Value} {id : Nat} (h : CX H H' c id) (hid : id < H.length) : CS H (H'.take H.length) c id := by
  have hl : (H'.take H.length).length = H.length := by rw [List.length_take]; have := h.2.2; omega
  refine ⟨h.1.keep fun j hj => by rw [List.getElem?_take, if_pos (by omega)], fun j hj => ?_, hl⟩
  by_cases hjl : j < H.length
  · rw [List.getElem?_take, if_pos hjl]; exact h.2.1 j hjl hj
  · rw [List.getElem?_eq_none (by omega), List.getElem?_eq_none (by omega)]
theorem CS.cut {H H' : Hp} {c : Value} {id : Nat} (h : CS H H' c id) : CS H (H'.take H.length) c id := by
  rw [List.take_of_length_le (Nat.le_of_eq h.2.2)]; exact h
theorem CX.pre {H0 H H' : Hp} {c : Value} {id : Nat} (h : CX H H' c id) (hp : H0 <+: H) (hid : H0.length ≤ id) : H0 <+: H' := by
  refine List.prefix_iff_getElem?.2 fun j hj => ?_
  have := hp.length_le
  rw [h.2.1 j (by omega) (by omega), pre_get hp hj, List.getElem?_eq_getElem hj]

theorem and255 (a : Int) : 0 ≤ IntKind.i64.wrap ((BitVec.ofInt IntKind.i64.bits a &&& BitVec.ofInt IntKind.i64.bits 255).toNat : Int) ∧ IntKind.i64.wrap ((BitVec.ofInt IntKind.i64.bits a &&& BitVec.ofInt IntKind.i64.bits 255).toNat : Int) ≤ 255 := by
  have h : (BitVec.ofInt IntKind.i64.bits a &&& BitVec.ofInt IntKind.i64.bits 255).toNat ≤ 255 := by
    rw [BitVec.toNat_and]
    refine Nat.le_trans (Nat.and_le_right) ?_
    decide
  rw [wrap64 _ (by omega) (by omega)]
  omega

theorem f77 {m : Md} {H : Hp} {c : Value} {id : Nat} (hc : Cur H c id) (hw : m.wr id = true) : Fun EE m 77 [c] H fun r H' => ∃ x : Int, r = .int .i64 x ∧ 0 ≤ x ∧ x ≤ 255 ∧ CS H H' c id := by
  refine fun_t rfl rfl k77 (by simp [c77]) fun m' hm => ?_
  have hw : m'.wr id = true := (hm id).trans hw
  obtain ⟨rfl, b, i, h, bl, hid, hb, hi, hnb0⟩ := hc
  have hnb : id ∉ idsOf b := fun hm => by have := hnb0 _ hm; omega
  have hidl := (List.getElem?_eq_some_iff.1 hid).1
  have hset : ∀ q, (H.set id q)[id]? = some q := fun q => List.getElem?_set_self hidl
  have hroom := hb.room
  simp only [go_nil, go_blk, go_skip, go_ret, go_exit, go_seq, go_block, go_reg, go_r0, go_r, go_d0, go_d, go_e0, go_e, box2, Option.isSome_some, Nat.le_refl, go_cond, go_o, go_g, aft_some, cnd_bool, grd_bool, grd_tup, brT_true, brT_false, brT_not, thr_exit, thr_c, thr_nil, stp, stepK, movK, mv1, ex, exv, exvs, upd_some, upd_none, ini, St.val, binK, binV, ofV, pickK, unK, unV, beqK, beq_true, beq_false, if_true, if_false, List.getElem?_cons_zero, List.getElem?_cons_succ, ↓reduceIte, Nat.reduceEqDiff, reduceCtorEq, loadK, adr, deref, Ad.fv, Ad.live, fadrK, List.length_cons, List.length_nil, List.drop_zero, List.drop_succ_cons, List.take_succ_cons, List.take_zero, Nat.reduceAdd, Nat.reduceLeDiff, Nat.zero_add, Nat.add_zero, aeqK, agEq, scEq, boxVK, newVK, exc, vc_agg, vc_int, vc_bool, vc_str, vc_ptr, vc_sl, vc_fn, boxOf, adInf, List.reverse_cons, List.reverse_nil, List.nil_append, List.cons_append, extK, Bool.and_true, Bool.true_and, Bool.not_true, Bool.not_false, resT, resVs, resV, true_and, and_true, storeK, spl_nil, spl_z, spl_1, spl_2, spl_3, spl_4, spl_5, spl_6, spl_7, spl_8, scal_int, scal_bool, scal_str, scal_nil, implies_true, Bool.and_self, Post_ret, Post_normal, PostS_ret, PostS_normal, retT_true, retT_false, flat_bool, flat_int, flat_str, List.take_length, decide_true, decide_false, Option.some.injEq, Value.bool.injEq, Value.int.injEq, Bool.false_and, Bool.and_false, not_false_eq_true, not_true_eq_false, toIntK, List.length_set, Nat.reduceMul, Bool.not_eq_true, Bool.not_eq_false, List.all_cons, List.all_nil, exps, fillL, buildK, strK, nilcK, fnK, callVT, List.size_toArray, List.append_nil, List.singleton_append, boxOK, newOK, scal_nil, List.isEmpty_nil, List.isEmpty_cons, mkVK, mkOK, mkCells, zeros_0, zeros_1, zeros_2, zeros_3, zeros_4, List.map_cons, List.map_nil, c77, hid, hw]
  refine go_draw ?_
  simp only [go_nil, go_blk, go_skip, go_ret, go_exit, go_seq, go_block, go_reg, go_r0, go_r, go_d0, go_d, go_e0, go_e, box2, Option.isSome_some, Nat.le_refl, go_cond, go_o, go_g, aft_some, cnd_bool, grd_bool, grd_tup, brT_true, brT_false, brT_not, thr_exit, thr_c, thr_nil, stp, stepK, movK, mv1, ex, exv, exvs, upd_some, upd_none, ini, St.val, binK, binV, ofV, pickK, unK, unV, beqK, beq_true, beq_false, if_true, if_false, List.getElem?_cons_zero, List.getElem?_cons_succ, ↓reduceIte, Nat.reduceEqDiff, reduceCtorEq, loadK, adr, deref, Ad.fv, Ad.live, fadrK, List.length_cons, List.length_nil, List.drop_zero, List.drop_succ_cons, List.take_succ_cons, List.take_zero, Nat.reduceAdd, Nat.reduceLeDiff, Nat.zero_add, Nat.add_zero, aeqK, agEq, scEq, boxVK, newVK, exc, vc_agg, vc_int, vc_bool, vc_str, vc_ptr, vc_sl, vc_fn, boxOf, adInf, List.reverse_cons, List.reverse_nil, List.nil_append, List.cons_append, extK, Bool.and_true, Bool.true_and, Bool.not_true, Bool.not_false, resT, resVs, resV, true_and, and_true, storeK, spl_nil, spl_z, spl_1, spl_2, spl_3, spl_4, spl_5, spl_6, spl_7, spl_8, scal_int, scal_bool, scal_str, scal_nil, implies_true, Bool.and_self, Post_ret, Post_normal, PostS_ret, PostS_normal, retT_true, retT_false, flat_bool, flat_int, flat_str, List.take_length, decide_true, decide_false, Option.some.injEq, Value.bool.injEq, Value.int.injEq, Bool.false_and, Bool.and_false, not_false_eq_true, not_true_eq_false, toIntK, List.length_set, Nat.reduceMul, Bool.not_eq_true, Bool.not_eq_false, List.all_cons, List.all_nil, exps, fillL, buildK, strK, nilcK, fnK, callVT, List.size_toArray, List.append_nil, List.singleton_append, boxOK, newOK, scal_nil, List.isEmpty_nil, List.isEmpty_cons, mkVK, mkOK, mkCells, zeros_0, zeros_1, zeros_2, zeros_3, zeros_4, List.map_cons, List.map_nil, hset, Int.reduceLT, Bool.false_eq_true]
  refine ⟨by rfl, ?_⟩
  refine go_draw ?_
  simp only [go_nil, go_blk, go_skip, go_ret, go_exit, go_seq, go_block, go_reg, go_r0, go_r, go_d0, go_d, go_e0, go_e, box2, Option.isSome_some, Nat.le_refl, go_cond, go_o, go_g, aft_some, cnd_bool, grd_bool, grd_tup, brT_true, brT_false, brT_not, thr_exit, thr_c, thr_nil, stp, stepK, movK, mv1, ex, exv, exvs, upd_some, upd_none, ini, St.val, binK, binV, ofV, pickK, unK, unV, beqK, beq_true, beq_false, if_true, if_false, List.getElem?_cons_zero, List.getElem?_cons_succ, ↓reduceIte, Nat.reduceEqDiff, reduceCtorEq, loadK, adr, deref, Ad.fv, Ad.live, fadrK, List.length_cons, List.length_nil, List.drop_zero, List.drop_succ_cons, List.take_succ_cons, List.take_zero, Nat.reduceAdd, Nat.reduceLeDiff, Nat.zero_add, Nat.add_zero, aeqK, agEq, scEq, boxVK, newVK, exc, vc_agg, vc_int, vc_bool, vc_str, vc_ptr, vc_sl, vc_fn, boxOf, adInf, List.reverse_cons, List.reverse_nil, List.nil_append, List.cons_append, extK, Bool.and_true, Bool.true_and, Bool.not_true, Bool.not_false, resT, resVs, resV, true_and, and_true, storeK, spl_nil, spl_z, spl_1, spl_2, spl_3, spl_4, spl_5, spl_6, spl_7, spl_8, scal_int, scal_bool, scal_str, scal_nil, implies_true, Bool.and_self, Post_ret, Post_normal, PostS_ret, PostS_normal, retT_true, retT_false, flat_bool, flat_int, flat_str, List.take_length, decide_true, decide_false, Option.some.injEq, Value.bool.injEq, Value.int.injEq, Bool.false_and, Bool.and_false, not_false_eq_true, not_true_eq_false, toIntK, List.length_set, Nat.reduceMul, Bool.not_eq_true, Bool.not_eq_false, List.all_cons, List.all_nil, exps, fillL, buildK, strK, nilcK, fnK, callVT, List.size_toArray, List.append_nil, List.singleton_append, boxOK, newOK, scal_nil, List.isEmpty_nil, List.isEmpty_cons, mkVK, mkOK, mkCells, zeros_0, zeros_1, zeros_2, zeros_3, zeros_4, List.map_cons, List.map_nil, hset, Int.reduceLT]
  simp only [go_nil, go_blk, go_skip, go_ret, go_exit, go_seq, go_block, go_reg, go_r0, go_r, go_d0, go_d, go_e0, go_e, box2, Option.isSome_some, Nat.le_refl, go_cond, go_o, go_g, aft_some, cnd_bool, grd_bool, grd_tup, brT_true, brT_false, brT_not, thr_exit, thr_c, thr_nil, stp, stepK, movK, mv1, ex, exv, exvs, upd_some, upd_none, ini, St.val, binK, binV, ofV, pickK, unK, unV, beqK, beq_true, beq_false, if_true, if_false, List.getElem?_cons_zero, List.getElem?_cons_succ, ↓reduceIte, Nat.reduceEqDiff, reduceCtorEq, loadK, adr, deref, Ad.fv, Ad.live, fadrK, List.length_cons, List.length_nil, List.drop_zero, List.drop_succ_cons, List.take_succ_cons, List.take_zero, Nat.reduceAdd, Nat.reduceLeDiff, Nat.zero_add, Nat.add_zero, aeqK, agEq, scEq, boxVK, newVK, exc, vc_agg, vc_int, vc_bool, vc_str, vc_ptr, vc_sl, vc_fn, boxOf, adInf, List.reverse_cons, List.reverse_nil, List.nil_append, List.cons_append, extK, Bool.and_true, Bool.true_and, Bool.not_true, Bool.not_false, resT, resVs, resV, true_and, and_true, storeK, spl_nil, spl_z, spl_1, spl_2, spl_3, spl_4, spl_5, spl_6, spl_7, spl_8, scal_int, scal_bool, scal_str, scal_nil, implies_true, Bool.and_self, Post_ret, Post_normal, PostS_ret, PostS_normal, retT_true, retT_false, flat_bool, flat_int, flat_str, List.take_length, decide_true, decide_false, Option.some.injEq, Value.bool.injEq, Value.int.injEq, Bool.false_and, Bool.and_false, not_false_eq_true, not_true_eq_false, toIntK, List.length_set, Nat.reduceMul, Bool.not_eq_true, Bool.not_eq_false, List.all_cons, List.all_nil, exps, fillL, buildK, strK, nilcK, fnK, callVT, List.size_toArray, List.append_nil, List.singleton_append, boxOK, newOK, scal_nil, List.isEmpty_nil, List.isEmpty_cons, mkVK, mkOK, mkCells, zeros_0, zeros_1, zeros_2, zeros_3, zeros_4, List.map_cons, List.map_nil, hb.len, Int.reduceLT]
  refine ⟨by rfl, ?_⟩
  have done : ∀ (i' h' : Int) (q : List Value), 0 ≤ i' → q = [b, .int .i64 i', .int .i64 h'] → CS H (H.set id q) (.pointer (some ⟨id, 0, some 3⟩)) id := fun i' h' q hi' hq => by
    subst hq
    exact ⟨⟨rfl, b, i', h', bl, hset _, hb.other hnb, hi', hnb0⟩, fun j hj => List.getElem?_set_ne (fun e => hj e.symm), by simp⟩
  have hcut : ∀ q : List Value, (H.set id q).take H.length = H.set id q := fun q => List.take_of_length_le (by simp)
  refine brT.intro (fun c1 => ?_) (fun c1 => ?_)
  · obtain ⟨k, rfl⟩ : ∃ k : Nat, i = k := ⟨i.toNat, by omega⟩
    have hk : k < bl.length := by have := of_decide_eq_true c1; omega
    obtain ⟨idb, pb, ob, hob, hrb, hiab⟩ := (hb.other (r := [b, .int .i64 k, .int .i64 (IntKind.i64.wrap (IntKind.i64.wrap (h * 6364136223846793005) + 1442695040888963407))]) hnb).byte (List.getElem?_eq_getElem hk)
    simp only [go_nil, go_blk, go_skip, go_ret, go_exit, go_seq, go_block, go_reg, go_r0, go_r, go_d0, go_d, go_e0, go_e, box2, Option.isSome_some, Nat.le_refl, go_cond, go_o, go_g, aft_some, cnd_bool, grd_bool, grd_tup, brT_true, brT_false, brT_not, thr_exit, thr_c, thr_nil, stp, stepK, movK, mv1, ex, exv, exvs, upd_some, upd_none, ini, St.val, binK, binV, ofV, pickK, unK, unV, beqK, beq_true, beq_false, if_true, if_false, List.getElem?_cons_zero, List.getElem?_cons_succ, ↓reduceIte, Nat.reduceEqDiff, reduceCtorEq, loadK, adr, deref, Ad.fv, Ad.live, fadrK, List.length_cons, List.length_nil, List.drop_zero, List.drop_succ_cons, List.take_succ_cons, List.take_zero, Nat.reduceAdd, Nat.reduceLeDiff, Nat.zero_add, Nat.add_zero, aeqK, agEq, scEq, boxVK, newVK, exc, vc_agg, vc_int, vc_bool, vc_str, vc_ptr, vc_sl, vc_fn, boxOf, adInf, List.reverse_cons, List.reverse_nil, List.nil_append, List.cons_append, extK, Bool.and_true, Bool.true_and, Bool.not_true, Bool.not_false, resT, resVs, resV, true_and, and_true, storeK, spl_nil, spl_z, spl_1, spl_2, spl_3, spl_4, spl_5, spl_6, spl_7, spl_8, scal_int, scal_bool, scal_str, scal_nil, implies_true, Bool.and_self, Post_ret, Post_normal, PostS_ret, PostS_normal, retT_true, retT_false, flat_bool, flat_int, flat_str, List.take_length, decide_true, decide_false, Option.some.injEq, Value.bool.injEq, Value.int.injEq, Bool.false_and, Bool.and_false, not_false_eq_true, not_true_eq_false, toIntK, List.length_set, Nat.reduceMul, Bool.not_eq_true, Bool.not_eq_false, List.all_cons, List.all_nil, exps, fillL, buildK, strK, nilcK, fnK, callVT, List.size_toArray, List.append_nil, List.singleton_append, boxOK, newOK, scal_nil, List.isEmpty_nil, List.isEmpty_cons, mkVK, mkOK, mkCells, zeros_0, zeros_1, zeros_2, zeros_3, zeros_4, List.map_cons, List.map_nil]
    refine go_draw ?_
    simp only [go_nil, go_blk, go_skip, go_ret, go_exit, go_seq, go_block, go_reg, go_r0, go_r, go_d0, go_d, go_e0, go_e, box2, Option.isSome_some, Nat.le_refl, go_cond, go_o, go_g, aft_some, cnd_bool, grd_bool, grd_tup, brT_true, brT_false, brT_not, thr_exit, thr_c, thr_nil, stp, stepK, movK, mv1, ex, exv, exvs, upd_some, upd_none, ini, St.val, binK, binV, ofV, pickK, unK, unV, beqK, beq_true, beq_false, if_true, if_false, List.getElem?_cons_zero, List.getElem?_cons_succ, ↓reduceIte, Nat.reduceEqDiff, reduceCtorEq, loadK, adr, deref, Ad.fv, Ad.live, fadrK, List.length_cons, List.length_nil, List.drop_zero, List.drop_succ_cons, List.take_succ_cons, List.take_zero, Nat.reduceAdd, Nat.reduceLeDiff, Nat.zero_add, Nat.add_zero, aeqK, agEq, scEq, boxVK, newVK, exc, vc_agg, vc_int, vc_bool, vc_str, vc_ptr, vc_sl, vc_fn, boxOf, adInf, List.reverse_cons, List.reverse_nil, List.nil_append, List.cons_append, extK, Bool.and_true, Bool.true_and, Bool.not_true, Bool.not_false, resT, resVs, resV, true_and, and_true, storeK, spl_nil, spl_z, spl_1, spl_2, spl_3, spl_4, spl_5, spl_6, spl_7, spl_8, scal_int, scal_bool, scal_str, scal_nil, implies_true, Bool.and_self, Post_ret, Post_normal, PostS_ret, PostS_normal, retT_true, retT_false, flat_bool, flat_int, flat_str, List.take_length, decide_true, decide_false, Option.some.injEq, Value.bool.injEq, Value.int.injEq, Bool.false_and, Bool.and_false, not_false_eq_true, not_true_eq_false, toIntK, List.length_set, Nat.reduceMul, Bool.not_eq_true, Bool.not_eq_false, List.all_cons, List.all_nil, exps, fillL, buildK, strK, nilcK, fnK, callVT, List.size_toArray, List.append_nil, List.singleton_append, boxOK, newOK, scal_nil, List.isEmpty_nil, List.isEmpty_cons, mkVK, mkOK, mkCells, zeros_0, zeros_1, zeros_2, zeros_3, zeros_4, List.map_cons, List.map_nil, hset, hiab, hob, hrb, Int.reduceLT]
    refine ⟨by rfl, ?_⟩
    simp only [go_nil, go_blk, go_skip, go_ret, go_exit, go_seq, go_block, go_reg, go_r0, go_r, go_d0, go_d, go_e0, go_e, box2, Option.isSome_some, Nat.le_refl, go_cond, go_o, go_g, aft_some, cnd_bool, grd_bool, grd_tup, brT_true, brT_false, brT_not, thr_exit, thr_c, thr_nil, stp, stepK, movK, mv1, ex, exv, exvs, upd_some, upd_none, ini, St.val, binK, binV, ofV, pickK, unK, unV, beqK, beq_true, beq_false, if_true, if_false, List.getElem?_cons_zero, List.getElem?_cons_succ, ↓reduceIte, Nat.reduceEqDiff, reduceCtorEq, loadK, adr, deref, Ad.fv, Ad.live, fadrK, List.length_cons, List.length_nil, List.drop_zero, List.drop_succ_cons, List.take_succ_cons, List.take_zero, Nat.reduceAdd, Nat.reduceLeDiff, Nat.zero_add, Nat.add_zero, aeqK, agEq, scEq, boxVK, newVK, exc, vc_agg, vc_int, vc_bool, vc_str, vc_ptr, vc_sl, vc_fn, boxOf, adInf, List.reverse_cons, List.reverse_nil, List.nil_append, List.cons_append, extK, Bool.and_true, Bool.true_and, Bool.not_true, Bool.not_false, resT, resVs, resV, true_and, and_true, storeK, spl_nil, spl_z, spl_1, spl_2, spl_3, spl_4, spl_5, spl_6, spl_7, spl_8, scal_int, scal_bool, scal_str, scal_nil, implies_true, Bool.and_self, Post_ret, Post_normal, PostS_ret, PostS_normal, retT_true, retT_false, flat_bool, flat_int, flat_str, List.take_length, decide_true, decide_false, Option.some.injEq, Value.bool.injEq, Value.int.injEq, Bool.false_and, Bool.and_false, not_false_eq_true, not_true_eq_false, toIntK, List.length_set, Nat.reduceMul, Bool.not_eq_true, Bool.not_eq_false, List.all_cons, List.all_nil, exps, fillL, buildK, strK, nilcK, fnK, callVT, List.size_toArray, List.append_nil, List.singleton_append, boxOK, newOK, scal_nil, List.isEmpty_nil, List.isEmpty_cons, mkVK, mkOK, mkCells, zeros_0, zeros_1, zeros_2, zeros_3, zeros_4, List.map_cons, List.map_nil, hset, hw, List.set_set, wrap64 ((k : Int) + 1) (by omega) (by omega), hcut]
    exact ⟨_, rfl, (and255 _).1, (and255 _).2, done _ _ _ (by omega) rfl⟩
  · simp only [go_nil, go_blk, go_skip, go_ret, go_exit, go_seq, go_block, go_reg, go_r0, go_r, go_d0, go_d, go_e0, go_e, box2, Option.isSome_some, Nat.le_refl, go_cond, go_o, go_g, aft_some, cnd_bool, grd_bool, grd_tup, brT_true, brT_false, brT_not, thr_exit, thr_c, thr_nil, stp, stepK, movK, mv1, ex, exv, exvs, upd_some, upd_none, ini, St.val, binK, binV, ofV, pickK, unK, unV, beqK, beq_true, beq_false, if_true, if_false, List.getElem?_cons_zero, List.getElem?_cons_succ, ↓reduceIte, Nat.reduceEqDiff, reduceCtorEq, loadK, adr, deref, Ad.fv, Ad.live, fadrK, List.length_cons, List.length_nil, List.drop_zero, List.drop_succ_cons, List.take_succ_cons, List.take_zero, Nat.reduceAdd, Nat.reduceLeDiff, Nat.zero_add, Nat.add_zero, aeqK, agEq, scEq, boxVK, newVK, exc, vc_agg, vc_int, vc_bool, vc_str, vc_ptr, vc_sl, vc_fn, boxOf, adInf, List.reverse_cons, List.reverse_nil, List.nil_append, List.cons_append, extK, Bool.and_true, Bool.true_and, Bool.not_true, Bool.not_false, resT, resVs, resV, true_and, and_true, storeK, spl_nil, spl_z, spl_1, spl_2, spl_3, spl_4, spl_5, spl_6, spl_7, spl_8, scal_int, scal_bool, scal_str, scal_nil, implies_true, Bool.and_self, Post_ret, Post_normal, PostS_ret, PostS_normal, retT_true, retT_false, flat_bool, flat_int, flat_str, List.take_length, decide_true, decide_false, Option.some.injEq, Value.bool.injEq, Value.int.injEq, Bool.false_and, Bool.and_false, not_false_eq_true, not_true_eq_false, toIntK, List.length_set, Nat.reduceMul, Bool.not_eq_true, Bool.not_eq_false, List.all_cons, List.all_nil, exps, fillL, buildK, strK, nilcK, fnK, callVT, List.size_toArray, List.append_nil, List.singleton_append, boxOK, newOK, scal_nil, List.isEmpty_nil, List.isEmpty_cons, mkVK, mkOK, mkCells, zeros_0, zeros_1, zeros_2, zeros_3, zeros_4, List.map_cons, List.map_nil, hcut]
    exact ⟨_, rfl, (and255 _).1, (and255 _).2, done _ _ _ hi rfl⟩

/-- A number below another one. -/
def BelowR (H : Hp) (c : Value) (id : Nat) (n : Int) (r : Value) (H' : Hp) : Prop := ∃ x : Int, r = .int .i64 x ∧ 0 ≤ x ∧ (0 < n → x < n) ∧ (n ≤ 0 → x = 0) ∧ CS H H' c id
theorem f51 {m : Md} {H : Hp} {c : Value} {id : Nat} {n : Int} (hc : Cur H c id) (hw : m.wr id = true) : Fun EE m 51 [c, .int .i64 n] H fun r H' => BelowR H c id n r H' := by
  refine fun_t rfl rfl k51 (by simp [c51]) fun m' hm => ?_
  have hw : m'.wr id = true := (hm id).trans hw
  simp only [go_sem, ↓reduceIte, Nat.reduceEqDiff, reduceCtorEq, Nat.reduceAdd, Nat.reduceLeDiff, Nat.reduceMul, c51]
  refine brT.intro (fun q1 => ?_) (fun q1 => ?_) <;> simp only [go_sem, ↓reduceIte, Nat.reduceEqDiff, reduceCtorEq, Nat.reduceAdd, Nat.reduceLeDiff, Nat.reduceMul]
  · exact ⟨0, rfl, by omega, fun h => by have := of_decide_eq_true q1; omega, fun _ => rfl, hc, fun _ _ => rfl, rfl⟩
  have n0 : 0 < n := by have := of_decide_eq_false q1; omega
  have e3 : n ≠ 0 := by omega
  have fin : ∀ {x : Int} {H' : Hp}, 0 ≤ x → CS H H' c id → BelowR H c id n (.int .i64 (Int.tmod x n)) (H'.take H.length) := fun {x H'} hx h => ⟨_, rfl, Int.tmod_nonneg _ hx, fun _ => by rw [Int.tmod_eq_emod_of_nonneg hx]; exact Int.emod_lt_of_pos _ n0, fun h => by omega, h.cut⟩
  refine brT.intro (fun q2 => ?_) (fun q2 => ?_) <;> simp only [go_sem, ↓reduceIte, Nat.reduceEqDiff, reduceCtorEq, Nat.reduceAdd, Nat.reduceLeDiff, Nat.reduceMul]
  · refine callD (f77 hc hw) rfl fun r H1 ⟨x, e, hx0, hx1, hs⟩ => ?_
    subst e
    simp only [go_sem, ↓reduceIte, Nat.reduceEqDiff, reduceCtorEq, Nat.reduceAdd, Nat.reduceLeDiff, Nat.reduceMul, e3]
    exact fin hx0 hs
  refine callD (f77 hc hw) rfl fun r H1 ⟨x, e, hx0, hx1, hs1⟩ => ?_
  subst e
  simp only [go_sem, ↓reduceIte, Nat.reduceEqDiff, reduceCtorEq, Nat.reduceAdd, Nat.reduceLeDiff, Nat.reduceMul]
  refine callD (f77 hs1.1 hw) rfl fun r H2 ⟨y, e, hy0, hy1, hs2⟩ => ?_
  subst e
  simp only [go_sem, ↓reduceIte, Nat.reduceEqDiff, reduceCtorEq, Nat.reduceAdd, Nat.reduceLeDiff, Nat.reduceMul]
  refine callD (f77 hs2.1 hw) rfl fun r H3 ⟨z, e, hz0, hz1, hs3⟩ => ?_
  subst e
  simp only [go_sem, ↓reduceIte, Nat.reduceEqDiff, reduceCtorEq, Nat.reduceAdd, Nat.reduceLeDiff, Nat.reduceMul]
  refine callD (f77 hs3.1 hw) rfl fun r H4 ⟨u, e, hu0, hu1, hs4⟩ => ?_
  subst e
  have a1 := wrap64 (x * 16777216) (by omega) (by omega)
  have a2 := wrap64 (y * 65536) (by omega) (by omega)
  have a3 := wrap64 (x * 16777216 + y * 65536) (by omega) (by omega)
  have a4 := wrap64 (z * 256) (by omega) (by omega)
  have a5 := wrap64 (x * 16777216 + y * 65536 + z * 256) (by omega) (by omega)
  have a6 := wrap64 (x * 16777216 + y * 65536 + z * 256 + u) (by omega) (by omega)
  simp only [go_sem, ↓reduceIte, Nat.reduceEqDiff, reduceCtorEq, Nat.reduceAdd, Nat.reduceLeDiff, Nat.reduceMul, e3, a1, a2, a3, a4, a5, a6]
  exact fin (by omega) (((hs1.trans hs2).trans hs3).trans hs4)

theorem f58 {m : Md} {H : Hp} {c : Value} {id : Nat} {n : Int} (hc : Cur H c id) (hw : m.wr id = true) : Fun EE m 58 [c, .int .i64 n] H fun r H' => ∃ b : Bool, r = .bool b ∧ CS H H' c id := by
  refine fun_t rfl rfl k58 (by simp [c58]) fun m' hm => ?_
  have hw : m'.wr id = true := (hm id).trans hw
  simp only [go_sem, ↓reduceIte, Nat.reduceEqDiff, reduceCtorEq, Nat.reduceAdd, Nat.reduceLeDiff, Nat.reduceMul, c58]
  refine callD (f51 hc hw) rfl fun r H1 ⟨x, e, hx0, hx1, hx2, hs⟩ => ?_
  subst e
  simp only [go_sem, ↓reduceIte, Nat.reduceEqDiff, reduceCtorEq, Nat.reduceAdd, Nat.reduceLeDiff, Nat.reduceMul]
  exact ⟨_, rfl, hs.cut⟩

theorem f50 {m : Md} {H : Hp} {v : Value} {l : List Int} (hl : SlU H v l) : Fun EE m 50 [v] H fun r H' => Cur H' r H.length ∧ H <+: H' ∧ H'.length = H.length + 1 := by
  refine fun_f rfl rfl k50 (by simp [c50]) ?_
  have hroom := hl.room
  simp only [go_sem, ↓reduceIte, Nat.reduceEqDiff, reduceCtorEq, Nat.reduceAdd, Nat.reduceLeDiff, Nat.reduceMul, c50, hl.len]
  refine go_for 4000 (fun i s => s.H = H ∧ s.ρ 0 = .val v ∧ s.ρ 4 = .val (.int .i64 i) ∧ ∃ h : Int, s.ρ 3 = .val (.int .i64 h)) (fun s => s.H = H ∧ s.ρ 0 = .val v ∧ ∃ h : Int, s.ρ 3 = .val (.int .i64 h)) ?_ ?_ ?_
  · exact ⟨rfl, by simp [upd, ini], by simp [upd], _, by simp [upd]; rfl⟩
  · rintro i s hi ⟨hH, h0, h4, h, h3⟩
    simp only [go_sem, ↓reduceIte, Nat.reduceEqDiff, reduceCtorEq, Nat.reduceAdd, Nat.reduceLeDiff, Nat.reduceMul, h0, h3, h4, hl.len]
    refine brT.intro (fun c1 => ?_) (fun c1 => ?_) <;> simp only [go_sem, ↓reduceIte, Nat.reduceEqDiff, reduceCtorEq, Nat.reduceAdd, Nat.reduceLeDiff, Nat.reduceMul, c1, h0, h3, h4]
    · refine brT.intro (fun c2 => ?_) (fun c2 => ?_) <;> simp only [go_sem, ↓reduceIte, Nat.reduceEqDiff, reduceCtorEq, Nat.reduceAdd, Nat.reduceLeDiff, Nat.reduceMul, c1, c2, h0, h3, h4]
      · have hi2 : i < l.length := by have := of_decide_eq_true c1; omega
        have hi3 : i < 4000 := by have := of_decide_eq_true c2; omega
        obtain ⟨id, p, o, ho, hr, hia⟩ := hl.byte (List.getElem?_eq_getElem hi2)
        simp only [go_sem, ↓reduceIte, Nat.reduceEqDiff, reduceCtorEq, Nat.reduceAdd, Nat.reduceLeDiff, Nat.reduceMul, h0, h3, h4, hia, hH, ho, hr, wrap64 ((i : Int) + 1) (by omega) (by omega)]
        exact ⟨hi3, by simp, _, rfl⟩
      · exact ⟨hH, h, rfl⟩
    · exact ⟨hH, h, rfl⟩
  · rintro s ⟨hH, h0, h, h3⟩
    simp only [go_sem, ↓reduceIte, Nat.reduceEqDiff, reduceCtorEq, Nat.reduceAdd, Nat.reduceLeDiff, Nat.reduceMul, h0, h3, hH, hl.vc, exps, fillL, buildK]
    refine ⟨⟨rfl, v, 0, h, l, by simp, hl.pre (List.prefix_append _ _), by omega, hl.ids⟩, List.prefix_append _ _, by simp⟩

theorem f24 {H : Hp} {v : Value} {l : List Int} (hl : SlU H v l) : Scal EE 24 [v] H (.bool (decide ((l.length : Int) > 1048576))) := by
  refine scal_ok rfl rfl k24 (by simp [c24]) rfl fun m hw => ?_
  simp only [go_sem, ↓reduceIte, Nat.reduceEqDiff, reduceCtorEq, Nat.reduceAdd, Nat.reduceLeDiff, Nat.reduceMul, c24, hl.len]

theorem Sl.intD {H : Hp} {v : Value} {l : List Int} (h : Sl (En eI) 1 H v l) {i : Nat} {a : Int} (hi : l[i]? = some a) : ∃ id p o, H[id]? = some o ∧ o[p]? = some (.int .i64 a) ∧
    ∀ (s : St) (x y : X), exv s.ρ x = some v → exv s.ρ y = some (.int .i64 i) → iadrK s 1 x y = some (.val (.pointer (some ⟨id, p, some o.length⟩)), s) := by
  obtain ⟨id, p, o, ho, hr, hp, hia⟩ := h.elem hi
  unfold En at hr
  exact ⟨id, p, o, ho, by simpa [eI] using getElem?_of_take hr (j := 0) (by omega), hia⟩
theorem sl_ints {H : Hp} (l : List Int) (hl : l.length ≤ 9223372036854775807) : Sl (En eI) 1 (H ++ [l.map (Value.int .i64)]) (.slice (some ⟨H.length, 0, some 1⟩) l.length l.length) l :=
  .inr ⟨H.length, 0, l.length, l.map (Value.int .i64), rfl, by simp, by simp, by simp, hl, fun i a hi => by
    unfold En eI
    refine List.ext_getElem? fun j => ?_
    rw [take_drop_get]
    by_cases hj : j < 1
    · have : j = 0 := by omega
      subst this
      rw [if_pos hj, List.getElem?_map, show 0 + i * 1 + 0 = i by omega, hi]
      rfl
    · rw [if_neg hj, List.getElem?_eq_none (by simp; omega)]⟩
/-- One of some numbers. -/
theorem f52 {m : Md} {H : Hp} {c v : Value} {id : Nat} {l : List Int} (hc : Cur H c id) (hw : m.wr id = true) (hl : Sl (En eI) 1 H v l) (h0 : 0 < l.length) (hid : id ∉ idsOf v) : Fun EE m 52 [c, v] H fun r H' => ∃ x ∈ l, r = .int .i64 x ∧ CS H H' c id := by
  refine fun_t rfl rfl k52 (by simp [c52]) fun m' hm => ?_
  have hw : m'.wr id = true := (hm id).trans hw
  have hroom := hl.room
  simp only [go_sem, ↓reduceIte, Nat.reduceEqDiff, reduceCtorEq, Nat.reduceAdd, Nat.reduceLeDiff, Nat.reduceMul, c52, hl.len]
  refine callD (f51 hc hw) rfl fun r H1 ⟨x, e, hx0, hx1, hx2, hs⟩ => ?_
  subst e
  obtain ⟨k, rfl⟩ : ∃ k : Nat, x = k := ⟨x.toNat, by omega⟩
  have hk : k < l.length := by have := hx1 (by omega); omega
  obtain ⟨id2, p, o, ho, hr, hia⟩ := (hl.cs hs hid).intD (List.getElem?_eq_getElem hk)
  simp only [go_sem, ↓reduceIte, Nat.reduceEqDiff, reduceCtorEq, Nat.reduceAdd, Nat.reduceLeDiff, Nat.reduceMul, hia, ho, hr]
  exact ⟨_, List.getElem_mem hk, rfl, hs.cut⟩
end Go.Proofs.Ytceilcdhflcbpaa.Ev

/- The types of the laws' parameters: bytes. -/
namespace Go.Proofs.Ytceilcdhflcbpaa.Ev
set_option linter.all false
open Go
set_option maxRecDepth 100000
theorem bU : Bld Try.prog 5 1 (fun _ (n : Int) vs => vs = [.int .u8 n]) (fun n => (Lit.int .u8 n).wf = true) := Bld.int Try.underlying5 (by kernel_rfl)
theorem aBytes : ArgB Try.prog 43 (fun M (l : List Int) v => SlU M v l) (fun l => ∀ x ∈ l, (Lit.int .u8 x).wf = true) :=
  have h := ArgB.slice (t := 43) (e := 5) Try.underlying43 (by kernel_rfl) (bU.conv (R' := fun _ (n : Int) vs => En eU n vs) (fun n => n) (fun _ _ _ h => h) (fun _ h => h) (fun _ h => h))
  ⟨h.mono, fun a b J M r => by
    obtain ⟨J', M', u, z, a1, a2, a3, a4, a5⟩ := h.arg a b J M r
    exact ⟨J', M', u, z, a1, a2, a3, a4, a5.2⟩⟩
end Go.Proofs.Ytceilcdhflcbpaa.Ev

/- Code of the program's functions, as the small machine has it: written by mkcode.py. -/
namespace Go.Proofs.Ytceilcdhflcbpaa.Ev
set_option linter.all false
open Go
def c8 : CF := ⟨157, (.seq (.reg false [⟨(some 2), .none, (.mov (.c (.bool false))), 0, []⟩]) (.seq (.seq (.reg false [⟨(some 16), .none, (.mov (.t 0)), 0, []⟩, ⟨(some 17), .none, (.call 24 [(.t 16)]), 1, []⟩]) (.cond (.t 17) (.seq (.reg false [⟨(some 2), .none, (.mov (.c (.bool true))), 0, []⟩]) .ret) .skip)) (.seq (.reg false [⟨(some 19), .none, (.mov (.t 0)), 0, []⟩, ⟨(some 20), .none, (.call 28 [(.t 19)]), 1, []⟩, ⟨(some 18), .none, (.mov (.t 20)), 2, []⟩, ⟨(some 21), .none, (.ext (.t 18) 0), 3, []⟩, ⟨(some 22), .none, (.ext (.t 18) 1), 4, []⟩, ⟨(some 3), .none, (.mov (.t 21)), 5, []⟩, ⟨(some 4), .none, (.mov (.t 22)), 6, []⟩]) (.seq (.reg false [⟨(some 23), .none, (.mov (.t 3)), 0, []⟩, ⟨(some 24), .none, (.call 29 [(.t 23)]), 1, []⟩, ⟨(some 5), .none, (.mov (.t 24)), 2, []⟩]) (.seq (.reg false [⟨(some 25), .none, (.mov (.t 3)), 0, []⟩, ⟨(some 26), .none, (.mov (.t 4)), 1, []⟩, ⟨(some 27), .none, (.call 30 [(.t 25), (.t 26)]), 2, []⟩, ⟨(some 6), .none, (.mov (.t 27)), 3, []⟩]) (.seq (.reg false [⟨(some 29), .none, (.mov (.t 0)), 0, []⟩, ⟨(some 30), .none, (.call 31 [(.t 29)]), 1, []⟩, ⟨(some 28), .none, (.mov (.t 30)), 2, []⟩, ⟨(some 31), .none, (.ext (.t 28) 0), 3, []⟩, ⟨(some 32), .none, (.ext (.t 28) 1), 4, []⟩, ⟨(some 7), .none, (.mov (.t 31)), 5, []⟩, ⟨(some 8), .none, (.mov (.t 32)), 6, []⟩]) (.seq (.reg false [⟨(some 33), .none, (.mov (.t 7)), 0, []⟩, ⟨(some 34), .none, (.mov (.t 8)), 1, []⟩, ⟨(some 35), .none, (.call 32 [(.t 33), (.t 34)]), 2, []⟩, ⟨(some 9), .none, (.mov (.t 35)), 3, []⟩]) (.seq (.seq (.reg false [⟨(some 36), .none, (.mov (.t 9)), 0, []⟩, ⟨(some 37), .none, (.mov (.t 7)), 1, []⟩, ⟨(some 38), .none, (.mov (.t 8)), 2, []⟩, ⟨(some 39), .none, (.call 33 [(.t 37), (.t 38)]), 3, []⟩, ⟨(some 40), .none, (.beq true (.t 36) (.t 39)), 4, []⟩, ⟨(some 41), .none, (.mov (.t 40)), 5, []⟩, ⟨(some 42), (.some (41, false)), (.mov (.t 5)), 6, []⟩, ⟨(some 43), (.some (41, false)), (.call 34 [(.t 42)]), 7, []⟩, ⟨(some 44), (.some (41, false)), (.un .not (.t 43)), 8, []⟩, ⟨(some 45), .none, (.pick (.t 41) (.c (.bool true)) (.t 44)), 9, []⟩, ⟨(some 46), .none, (.mov (.t 45)), 10, []⟩, ⟨(some 47), (.some (46, false)), (.mov (.t 6)), 11, []⟩, ⟨(some 48), (.some (46, false)), (.call 34 [(.t 47)]), 12, []⟩, ⟨(some 49), (.some (46, false)), (.un .not (.t 48)), 13, []⟩, ⟨(some 50), .none, (.pick (.t 46) (.c (.bool true)) (.t 49)), 14, []⟩, ⟨(some 51), .none, (.mov (.t 50)), 15, []⟩, ⟨(some 52), (.some (51, false)), (.mov (.t 5)), 16, []⟩, ⟨(some 53), (.some (51, false)), (.lenS (.t 52)), 17, []⟩, ⟨(some 54), (.some (51, false)), (.bin .gtr (.t 53) (.c (.int .i64 5))), 18, []⟩, ⟨(some 55), .none, (.pick (.t 51) (.c (.bool true)) (.t 54)), 19, []⟩, ⟨(some 56), .none, (.mov (.t 55)), 20, []⟩, ⟨(some 57), (.some (56, false)), (.mov (.t 6)), 21, []⟩, ⟨(some 58), (.some (56, false)), (.lenS (.t 57)), 22, []⟩, ⟨(some 59), (.some (56, false)), (.bin .gtr (.t 58) (.c (.int .i64 5))), 23, []⟩, ⟨(some 60), .none, (.pick (.t 56) (.c (.bool true)) (.t 59)), 24, []⟩]) (.cond (.t 60) (.seq (.reg false [⟨(some 2), .none, (.mov (.c (.bool false))), 0, []⟩]) .ret) .skip)) (.seq (.reg false [⟨(some 61), .none, (.mov (.t 5)), 0, []⟩, ⟨(some 62), .none, (.call 29 [(.t 61)]), 1, []⟩, ⟨(some 10), .none, (.mov (.t 62)), 2, []⟩]) (.seq (.seq (.reg false [⟨(some 63), .none, (.mov (.t 10)), 0, []⟩, ⟨(some 64), .none, (.call 35 [(.t 63)]), 1, []⟩, ⟨(some 65), .none, (.mov (.t 5)), 2, []⟩, ⟨(some 66), .none, (.call 35 [(.t 65)]), 3, []⟩, ⟨(some 67), .none, (.bin .neq (.t 64) (.t 66)), 4, []⟩]) (.cond (.t 67) (.seq (.reg false [⟨(some 2), .none, (.mov (.c (.bool false))), 0, []⟩]) .ret) .skip)) (.seq (.seq (.reg false [⟨(some 11), .none, (.mov (.c (.int .i64 0))), 0, []⟩]) (.block 0 (.loop (.seq (.seq (.reg false [⟨(some 68), .none, (.mov (.t 11)), 0, []⟩, ⟨(some 69), .none, (.bin .lss (.t 68) (.c (.int .i64 12))), 1, []⟩]) (.cond (.t 69) .skip (.exit 0))) (.seq (.block 1 (.seq (.reg false [⟨(some 73), .none, (.mov (.t 0)), 0, []⟩, ⟨(some 74), .none, (.mov (.t 11)), 1, []⟩, ⟨(some 75), .none, (.call 37 [(.t 73), (.t 74)]), 2, []⟩, ⟨(some 76), .none, (.call 36 [(.t 75)]), 3, []⟩, ⟨(some 72), .none, (.mov (.t 76)), 4, []⟩, ⟨(some 77), .none, (.ext (.t 72) 0), 5, []⟩, ⟨(some 78), .none, (.ext (.t 72) 1), 6, []⟩, ⟨(some 13), .none, (.newV [(.int .i64 0), (.int .i64 0), (.slice .none 0 0), (.int .i64 0), (.int .i64 0)]), 7, []⟩, ⟨(some 12), .none, (.mov (.t 77)), 8, []⟩, ⟨.none, .none, (.store 5 (.t 13) (.t 78)), 9, []⟩]) (.seq (.reg false [⟨(some 79), .none, (.mov (.t 3)), 0, []⟩, ⟨(some 80), .none, (.load 5 true (.t 13)), 1, []⟩, ⟨(some 81), .none, (.call 38 [(.t 79), (.t 80)]), 2, []⟩, ⟨(some 14), .none, (.mov (.t 81)), 3, []⟩]) (.seq (.reg false [⟨(some 82), .none, (.mov (.t 4)), 0, []⟩, ⟨(some 83), .none, (.load 5 true (.t 13)), 1, []⟩, ⟨(some 84), .none, (.call 38 [(.t 82), (.t 83)]), 2, []⟩, ⟨(some 15), .none, (.mov (.t 84)), 3, []⟩]) (.seq (.seq (.reg false [⟨(some 85), .none, (.mov (.t 3)), 0, []⟩, ⟨(some 86), .none, (.load 5 true (.t 13)), 1, []⟩, ⟨(some 87), .none, (.call 39 [(.t 85), (.t 86)]), 2, []⟩, ⟨(some 88), .none, (.mov (.t 14)), 3, []⟩, ⟨(some 89), .none, (.beq true (.t 87) (.t 88)), 4, []⟩, ⟨(some 90), .none, (.mov (.t 89)), 5, []⟩, ⟨(some 91), (.some (90, false)), (.mov (.t 3)), 6, []⟩, ⟨(some 92), (.some (90, false)), (.call 34 [(.t 91)]), 7, []⟩, ⟨(some 93), (.some (90, false)), (.mov (.t 92)), 8, []⟩, ⟨(some 94), (.some (93, true)), (.mov (.t 5)), 9, []⟩, ⟨(some 95), (.some (93, true)), (.load 5 true (.t 13)), 10, []⟩, ⟨(some 96), (.some (93, true)), (.call 39 [(.t 94), (.t 95)]), 11, []⟩, ⟨(some 97), (.some (93, true)), (.mov (.t 14)), 12, []⟩, ⟨(some 98), (.some (93, true)), (.beq true (.t 96) (.t 97)), 13, []⟩, ⟨(some 99), (.some (90, false)), (.pick (.t 93) (.t 98) (.c (.bool false))), 14, []⟩, ⟨(some 100), .none, (.pick (.t 90) (.c (.bool true)) (.t 99)), 15, []⟩, ⟨(some 101), .none, (.mov (.t 100)), 16, []⟩, ⟨(some 102), (.some (101, false)), (.mov (.t 3)), 17, []⟩, ⟨(some 103), (.some (101, false)), (.call 34 [(.t 102)]), 18, []⟩, ⟨(some 104), (.some (101, false)), (.mov (.t 103)), 19, []⟩, ⟨(some 105), (.some (104, true)), (.mov (.t 4)), 20, []⟩, ⟨(some 106), (.some (104, true)), (.call 34 [(.t 105)]), 21, []⟩, ⟨(some 107), (.some (101, false)), (.pick (.t 104) (.t 106) (.c (.bool false))), 22, []⟩, ⟨(some 108), (.some (101, false)), (.mov (.t 107)), 23, []⟩, ⟨(some 109), (.some (108, true)), (.mov (.t 3)), 24, []⟩, ⟨(some 110), (.some (108, true)), (.lenS (.t 109)), 25, []⟩, ⟨(some 111), (.some (108, true)), (.mov (.t 4)), 26, []⟩, ⟨(some 112), (.some (108, true)), (.lenS (.t 111)), 27, []⟩, ⟨(some 113), (.some (108, true)), (.bin .add (.t 110) (.t 112)), 28, []⟩, ⟨(some 114), (.some (108, true)), (.bin .leq (.t 113) (.c (.int .i64 20))), 29, []⟩, ⟨(some 115), (.some (101, false)), (.pick (.t 108) (.t 114) (.c (.bool false))), 30, []⟩, ⟨(some 116), (.some (101, false)), (.mov (.t 115)), 31, []⟩, ⟨(some 117), (.some (116, true)), (.mov (.t 6)), 32, []⟩, ⟨(some 118), (.some (116, true)), (.load 5 true (.t 13)), 33, []⟩, ⟨(some 119), (.some (116, true)), (.call 39 [(.t 117), (.t 118)]), 34, []⟩, ⟨(some 120), (.some (116, true)), (.mov (.t 14)), 35, []⟩, ⟨(some 121), (.some (116, true)), (.mov (.t 120)), 36, []⟩, ⟨(some 122), (.some (121, true)), (.mov (.t 15)), 37, []⟩, ⟨(some 123), (.some (116, true)), (.pick (.t 121) (.t 122) (.c (.bool false))), 38, []⟩, ⟨(some 124), (.some (116, true)), (.beq true (.t 119) (.t 123)), 39, []⟩, ⟨(some 125), (.some (101, false)), (.pick (.t 116) (.t 124) (.c (.bool false))), 40, []⟩, ⟨(some 126), .none, (.pick (.t 101) (.c (.bool true)) (.t 125)), 41, []⟩]) (.cond (.t 126) (.seq (.reg false [⟨(some 2), .none, (.mov (.c (.bool false))), 0, []⟩]) .ret) .skip)) (.seq (.reg false [⟨(some 127), .none, (.mov (.t 9)), 0, []⟩, ⟨(some 128), .none, (.mov (.t 127)), 1, []⟩, ⟨(some 129), (.some (128, true)), (.mov (.t 7)), 2, []⟩, ⟨(some 130), (.some (128, true)), (.load 5 true (.t 13)), 3, []⟩, ⟨(some 131), (.some (128, true)), (.call 38 [(.t 129), (.t 130)]), 4, []⟩, ⟨(some 132), .none, (.pick (.t 128) (.t 131) (.c (.bool false))), 5, []⟩, ⟨(some 133), .none, (.mov (.t 132)), 6, []⟩, ⟨(some 134), (.some (133, true)), (.mov (.t 8)), 7, []⟩, ⟨(some 135), (.some (133, true)), (.load 5 true (.t 13)), 8, []⟩, ⟨(some 136), (.some (133, true)), (.call 38 [(.t 134), (.t 135)]), 9, []⟩, ⟨(some 137), (.some (133, true)), (.un .not (.t 136)), 10, []⟩, ⟨(some 138), .none, (.pick (.t 133) (.t 137) (.c (.bool false))), 11, []⟩]) (.cond (.t 138) (.seq (.reg false [⟨(some 2), .none, (.mov (.c (.bool false))), 0, []⟩]) .ret) .skip))))))) (.reg false [⟨(some 70), .none, (.mov (.t 11)), 0, []⟩, ⟨(some 71), .none, (.bin .add (.t 70) (.c (.int .i64 1))), 1, []⟩, ⟨(some 11), .none, (.mov (.t 71)), 2, []⟩])))))) (.seq (.reg false [⟨(some 139), .none, (.mov (.t 3)), 0, []⟩, ⟨(some 140), .none, (.call 34 [(.t 139)]), 1, []⟩, ⟨(some 141), .none, (.un .not (.t 140)), 2, []⟩, ⟨(some 142), .none, (.mov (.t 141)), 3, []⟩, ⟨(some 143), (.some (142, false)), (.mov (.t 3)), 4, []⟩, ⟨(some 144), (.some (142, false)), (.mov (.t 3)), 5, []⟩, ⟨(some 145), (.some (142, false)), (.call 32 [(.t 143), (.t 144)]), 6, []⟩, ⟨(some 146), (.some (142, false)), (.mov (.t 145)), 7, []⟩, ⟨(some 147), (.some (146, true)), (.mov (.t 3)), 8, []⟩, ⟨(some 148), (.some (146, true)), (.mov (.t 5)), 9, []⟩, ⟨(some 149), (.some (146, true)), (.call 32 [(.t 147), (.t 148)]), 10, []⟩, ⟨(some 150), (.some (142, false)), (.pick (.t 146) (.t 149) (.c (.bool false))), 11, []⟩, ⟨(some 151), (.some (142, false)), (.mov (.t 150)), 12, []⟩, ⟨(some 152), (.some (151, true)), (.mov (.t 5)), 13, []⟩, ⟨(some 153), (.some (151, true)), (.mov (.t 3)), 14, []⟩, ⟨(some 154), (.some (151, true)), (.call 32 [(.t 152), (.t 153)]), 15, []⟩, ⟨(some 155), (.some (142, false)), (.pick (.t 151) (.t 154) (.c (.bool false))), 16, []⟩, ⟨(some 156), .none, (.pick (.t 142) (.c (.bool true)) (.t 155)), 17, []⟩, ⟨(some 2), .none, (.mov (.t 156)), 18, []⟩]) .ret)))))))))))), [(.t 2)]⟩
theorem k8 : EE.fns 8 = some c8 := by kernel_rfl
def c28 : CF := ⟨13, (.seq (.reg false [⟨(some 2), .none, (.mov (.c (.slice .none 0 0))), 0, []⟩, ⟨(some 3), .none, (.mov (.c (.slice .none 0 0))), 1, []⟩]) (.seq (.reg false [⟨(some 6), .none, (.mov (.t 0)), 0, []⟩, ⟨(some 7), .none, (.call 50 [(.t 6)]), 1, []⟩, ⟨(some 4), .none, (.mov (.t 7)), 2, []⟩]) (.seq (.reg false [⟨(some 8), .none, (.mov (.t 4)), 0, []⟩, ⟨(some 9), .none, (.call 55 [(.t 8), (.c (.int .i64 6))]), 1, []⟩, ⟨(some 5), .none, (.mov (.t 9)), 2, []⟩]) (.seq (.reg false [⟨(some 10), .none, (.mov (.t 5)), 0, []⟩, ⟨(some 11), .none, (.mov (.t 4)), 1, []⟩, ⟨(some 12), .none, (.call 55 [(.t 11), (.c (.int .i64 6))]), 2, []⟩, ⟨(some 2), .none, (.mov (.t 10)), 3, []⟩, ⟨(some 3), .none, (.mov (.t 12)), 4, []⟩]) .ret)))), [(.t 2), (.t 3)]⟩
theorem k28 : EE.fns 28 = some c28 := by kernel_rfl
def c29 : CF := ⟨9, (.seq (.reg false [⟨(some 2), .none, (.mov (.c (.slice .none 0 0))), 0, []⟩]) (.seq (.seq (.reg false [⟨(some 3), .none, (.mov (.t 0)), 0, []⟩, ⟨(some 4), .none, (.call 56 [(.t 3)]), 1, []⟩, ⟨(some 5), .none, (.un .not (.t 4)), 2, []⟩]) (.cond (.t 5) (.seq (.reg false [⟨(some 6), .none, (.mkO 0 3 [(.int .i64 0), (.slice .none 0 0), (.int .i64 0)] []), 0, []⟩, ⟨(some 2), .none, (.mov (.t 6)), 1, []⟩]) .ret) .skip)) (.seq (.reg false [⟨(some 7), .none, (.mov (.t 0)), 0, []⟩, ⟨(some 8), .none, (.call 57 [(.t 7)]), 1, []⟩, ⟨(some 2), .none, (.mov (.t 8)), 2, []⟩]) .ret))), [(.t 2)]⟩
theorem k29 : EE.fns 29 = some c29 := by kernel_rfl
def c30 : CF := ⟨28, (.seq (.reg false [⟨(some 4), .none, (.mov (.c (.slice .none 0 0))), 0, []⟩]) (.seq (.seq (.reg false [⟨(some 5), .none, (.mov (.t 0)), 0, []⟩, ⟨(some 6), .none, (.call 56 [(.t 5)]), 1, []⟩, ⟨(some 7), .none, (.un .not (.t 6)), 2, []⟩, ⟨(some 8), .none, (.mov (.t 7)), 3, []⟩, ⟨(some 9), (.some (8, false)), (.mov (.t 1)), 4, []⟩, ⟨(some 10), (.some (8, false)), (.call 56 [(.t 9)]), 5, []⟩, ⟨(some 11), (.some (8, false)), (.un .not (.t 10)), 6, []⟩, ⟨(some 12), .none, (.pick (.t 8) (.c (.bool true)) (.t 11)), 7, []⟩, ⟨(some 13), .none, (.mov (.t 12)), 8, []⟩, ⟨(some 14), (.some (13, false)), (.mov (.t 0)), 9, []⟩, ⟨(some 15), (.some (13, false)), (.lenS (.t 14)), 10, []⟩, ⟨(some 16), (.some (13, false)), (.mov (.t 1)), 11, []⟩, ⟨(some 17), (.some (13, false)), (.lenS (.t 16)), 12, []⟩, ⟨(some 18), (.some (13, false)), (.bin .add (.t 15) (.t 17)), 13, []⟩, ⟨(some 19), (.some (13, false)), (.bin .gtr (.t 18) (.c (.int .i64 20))), 14, []⟩, ⟨(some 20), .none, (.pick (.t 13) (.c (.bool true)) (.t 19)), 15, []⟩]) (.cond (.t 20) (.seq (.reg false [⟨(some 21), .none, (.mkO 0 3 [(.int .i64 0), (.slice .none 0 0), (.int .i64 0)] []), 0, []⟩, ⟨(some 4), .none, (.mov (.t 21)), 1, []⟩]) .ret) .skip)) (.seq (.reg false [⟨(some 22), .none, (.mkO 0 3 [(.int .i64 0), (.slice .none 0 0), (.int .i64 0)] []), 0, []⟩, ⟨(some 23), .none, (.mov (.t 0)), 1, []⟩, ⟨(some 24), .none, (.app 3 40 (.t 22) (.t 23)), 2, []⟩, ⟨(some 25), .none, (.mov (.t 1)), 3, []⟩, ⟨(some 26), .none, (.app 3 40 (.t 24) (.t 25)), 4, []⟩, ⟨(some 27), .none, (.call 57 [(.t 26)]), 5, []⟩, ⟨(some 4), .none, (.mov (.t 27)), 6, []⟩]) .ret))), [(.t 4)]⟩
theorem k30 : EE.fns 30 = some c30 := by kernel_rfl
def c31 : CF := ⟨20, (.seq (.reg false [⟨(some 2), .none, (.mov (.c (.slice .none 0 0))), 0, []⟩, ⟨(some 3), .none, (.mov (.c (.slice .none 0 0))), 1, []⟩]) (.seq (.reg false [⟨(some 6), .none, (.mov (.t 0)), 0, []⟩, ⟨(some 7), .none, (.call 50 [(.t 6)]), 1, []⟩, ⟨(some 4), .none, (.mov (.t 7)), 2, []⟩]) (.seq (.reg false [⟨(some 8), .none, (.mov (.t 4)), 0, []⟩, ⟨(some 9), .none, (.call 55 [(.t 8), (.c (.int .i64 6))]), 1, []⟩, ⟨(some 5), .none, (.mov (.t 9)), 2, []⟩]) (.seq (.seq (.reg false [⟨(some 10), .none, (.mov (.t 4)), 0, []⟩, ⟨(some 11), .none, (.call 58 [(.t 10), (.c (.int .i64 2))]), 1, []⟩]) (.cond (.t 11) (.seq (.reg false [⟨(some 12), .none, (.mov (.t 5)), 0, []⟩, ⟨(some 13), .none, (.mov (.t 4)), 1, []⟩, ⟨(some 14), .none, (.call 55 [(.t 13), (.c (.int .i64 3))]), 2, []⟩, ⟨(some 15), .none, (.call 59 [(.t 12), (.t 14)]), 3, []⟩, ⟨(some 16), .none, (.mov (.t 5)), 4, []⟩, ⟨(some 2), .none, (.mov (.t 15)), 5, []⟩, ⟨(some 3), .none, (.mov (.t 16)), 6, []⟩]) .ret) .skip)) (.seq (.reg false [⟨(some 17), .none, (.mov (.t 5)), 0, []⟩, ⟨(some 18), .none, (.mov (.t 4)), 1, []⟩, ⟨(some 19), .none, (.call 55 [(.t 18), (.c (.int .i64 3))]), 2, []⟩, ⟨(some 2), .none, (.mov (.t 17)), 3, []⟩, ⟨(some 3), .none, (.mov (.t 19)), 4, []⟩]) .ret))))), [(.t 2), (.t 3)]⟩
theorem k31 : EE.fns 31 = some c31 := by kernel_rfl
def c32 : CF := ⟨68, (.seq (.reg false [⟨(some 4), .none, (.mov (.c (.bool false))), 0, []⟩]) (.seq (.seq (.reg false [⟨(some 10), .none, (.mov (.t 0)), 0, []⟩, ⟨(some 11), .none, (.call 56 [(.t 10)]), 1, []⟩, ⟨(some 12), .none, (.un .not (.t 11)), 2, []⟩, ⟨(some 13), .none, (.mov (.t 12)), 3, []⟩, ⟨(some 14), (.some (13, false)), (.mov (.t 1)), 4, []⟩, ⟨(some 15), (.some (13, false)), (.call 56 [(.t 14)]), 5, []⟩, ⟨(some 16), (.some (13, false)), (.un .not (.t 15)), 6, []⟩, ⟨(some 17), .none, (.pick (.t 13) (.c (.bool true)) (.t 16)), 7, []⟩]) (.cond (.t 17) (.seq (.reg false [⟨(some 4), .none, (.mov (.c (.bool false))), 0, []⟩]) .ret) .skip)) (.seq (.reg false [⟨(some 18), .none, (.mov (.t 0)), 0, []⟩, ⟨(some 19), .none, (.call 57 [(.t 18)]), 1, []⟩, ⟨(some 5), .none, (.mov (.t 19)), 2, []⟩]) (.seq (.seq (.reg false [⟨(some 20), .none, (.mov (.t 5)), 0, []⟩, ⟨(some 21), .none, (.call 60 [(.t 20), (.f 61)]), 1, []⟩]) (.cond (.t 21) (.seq (.reg false [⟨(some 4), .none, (.mov (.c (.bool true))), 0, []⟩]) .ret) .skip)) (.seq (.seq (.reg false [⟨(some 22), .none, (.mov (.t 1)), 0, []⟩, ⟨(some 23), .none, (.call 57 [(.t 22)]), 1, []⟩, ⟨(some 24), .none, (.lenS (.t 23)), 2, []⟩, ⟨(some 25), .none, (.mov (.c (.int .i64 0))), 3, []⟩]) (.block 0 (.loop (.seq (.reg false [⟨(some 26), .none, (.bin .lss (.t 25) (.t 24)), 0, []⟩]) (.seq (.cond (.t 26) .skip (.exit 0)) (.seq (.block 1 (.seq (.reg false [⟨(some 27), .none, (.iadr 3 (.t 23) (.t 25)), 0, []⟩, ⟨(some 28), .none, (.load 3 true (.t 27)), 1, []⟩, ⟨(some 7), .none, (.newO [(.int .i64 0), (.slice .none 0 0), (.int .i64 0)]), 2, []⟩, ⟨.none, .none, (.store 3 (.t 7) (.t 28)), 3, []⟩]) (.seq (.reg false [⟨(some 29), .none, (.mov (.t 5)), 0, []⟩, ⟨(some 30), .none, (.fn 63 [(.t 7)]), 1, []⟩, ⟨(some 31), .none, (.call 62 [(.t 29), (.t 30)]), 2, []⟩, ⟨(some 8), .none, (.mov (.t 31)), 3, []⟩]) (.seq (.reg false [⟨(some 32), .none, (.build [(.int .i64 0), (.slice .none 0 0), (.int .i64 0)] []), 0, []⟩, ⟨(some 9), .none, (.newV [(.int .i64 0), (.slice .none 0 0), (.int .i64 0)]), 1, []⟩, ⟨.none, .none, (.store 3 (.t 9) (.t 32)), 2, []⟩]) (.seq (.seq (.reg false [⟨(some 33), .none, (.mov (.t 8)), 0, []⟩, ⟨(some 34), .none, (.bin .geq (.t 33) (.c (.int .i64 0))), 1, []⟩]) (.cond (.t 34) (.reg false [⟨(some 35), .none, (.mov (.t 5)), 0, []⟩, ⟨(some 36), .none, (.mov (.t 8)), 1, []⟩, ⟨(some 37), .none, (.iadr 3 (.t 35) (.t 36)), 2, []⟩, ⟨(some 38), .none, (.load 3 true (.t 37)), 3, []⟩, ⟨.none, .none, (.store 3 (.t 9) (.t 38)), 4, []⟩]) .skip)) (.block 2 (.seq (.reg false [⟨(some 40), .none, (.fadr 0 (.t 7)), 0, []⟩, ⟨(some 41), .none, (.load 1 false (.t 40)), 1, []⟩, ⟨(some 42), .none, (.bin .eql (.t 41) (.c (.int .i64 3))), 2, []⟩, ⟨(some 39), .none, (.mov (.t 42)), 3, []⟩]) (.cond (.t 39) (.seq (.reg false [⟨(some 43), .none, (.fadr 1 (.t 7)), 0, []⟩, ⟨(some 44), .none, (.load 1 false (.t 43)), 1, []⟩, ⟨(some 45), .none, (.fadr 1 (.t 9)), 2, []⟩, ⟨(some 46), .none, (.load 1 false (.t 45)), 3, []⟩, ⟨(some 47), .none, (.call 64 [(.t 44), (.t 46)]), 4, []⟩, ⟨(some 48), .none, (.un .not (.t 47)), 5, []⟩]) (.cond (.t 48) (.seq (.reg false [⟨(some 4), .none, (.mov (.c (.bool false))), 0, []⟩]) .ret) .skip)) (.seq (.reg false [⟨(some 50), .none, (.mov (.t 8)), 0, []⟩, ⟨(some 51), .none, (.bin .lss (.t 50) (.c (.int .i64 0))), 1, []⟩, ⟨(some 52), .none, (.mov (.t 51)), 2, []⟩, ⟨(some 53), (.some (52, false)), (.fadr 2 (.t 9)), 3, []⟩, ⟨(some 54), (.some (52, false)), (.load 1 false (.t 53)), 4, []⟩, ⟨(some 55), (.some (52, false)), (.fadr 2 (.t 7)), 5, []⟩, ⟨(some 56), (.some (52, false)), (.load 1 false (.t 55)), 6, []⟩, ⟨(some 57), (.some (52, false)), (.bin .gtr (.t 54) (.t 56)), 7, []⟩, ⟨(some 58), .none, (.pick (.t 52) (.c (.bool true)) (.t 57)), 8, []⟩, ⟨(some 59), .none, (.mov (.t 58)), 9, []⟩, ⟨(some 60), (.some (59, false)), (.fadr 1 (.t 9)), 10, []⟩, ⟨(some 61), (.some (59, false)), (.load 1 false (.t 60)), 11, []⟩, ⟨(some 62), (.some (59, false)), (.fadr 1 (.t 7)), 12, []⟩, ⟨(some 63), (.some (59, false)), (.load 1 false (.t 62)), 13, []⟩, ⟨(some 64), (.some (59, false)), (.call 64 [(.t 61), (.t 63)]), 14, []⟩, ⟨(some 65), (.some (59, false)), (.un .not (.t 64)), 15, []⟩, ⟨(some 66), .none, (.pick (.t 59) (.c (.bool true)) (.t 65)), 16, []⟩, ⟨(some 49), .none, (.mov (.t 66)), 17, []⟩]) (.cond (.t 49) (.seq (.reg false [⟨(some 4), .none, (.mov (.c (.bool false))), 0, []⟩]) .ret) .skip)))))))))) (.reg false [⟨(some 67), .none, (.bin .add (.t 25) (.c (.int .i64 1))), 0, []⟩, ⟨(some 25), .none, (.mov (.t 67)), 1, []⟩]))))))) (.seq (.reg false [⟨(some 4), .none, (.mov (.c (.bool true))), 0, []⟩]) .ret)))))), [(.t 4)]⟩
theorem k32 : EE.fns 32 = some c32 := by kernel_rfl
def c33 : CF := ⟨69, (.seq (.reg false [⟨(some 4), .none, (.mov (.c (.bool false))), 0, []⟩]) (.seq (.seq (.reg false [⟨(some 10), .none, (.mov (.t 0)), 0, []⟩, ⟨(some 11), .none, (.call 34 [(.t 10)]), 1, []⟩, ⟨(some 12), .none, (.un .not (.t 11)), 2, []⟩, ⟨(some 13), .none, (.mov (.t 12)), 3, []⟩, ⟨(some 14), (.some (13, false)), (.mov (.t 1)), 4, []⟩, ⟨(some 15), (.some (13, false)), (.call 34 [(.t 14)]), 5, []⟩, ⟨(some 16), (.some (13, false)), (.un .not (.t 15)), 6, []⟩, ⟨(some 17), .none, (.pick (.t 13) (.c (.bool true)) (.t 16)), 7, []⟩]) (.cond (.t 17) (.seq (.reg false [⟨(some 4), .none, (.mov (.c (.bool false))), 0, []⟩]) .ret) .skip)) (.seq (.seq (.reg false [⟨(some 18), .none, (.mov (.t 0)), 0, []⟩, ⟨(some 19), .none, (.call 65 [(.t 18)]), 1, []⟩]) (.cond (.t 19) (.seq (.reg false [⟨(some 4), .none, (.mov (.c (.bool true))), 0, []⟩]) .ret) .skip)) (.seq (.seq (.reg false [⟨(some 5), .none, (.mov (.c (.int .i64 1))), 0, []⟩]) (.block 0 (.loop (.seq (.seq (.reg false [⟨(some 20), .none, (.mov (.t 5)), 0, []⟩, ⟨(some 21), .none, (.bin .leq (.t 20) (.c (.int .i64 5))), 1, []⟩]) (.cond (.t 21) .skip (.exit 0))) (.seq (.block 1 (.seq (.reg false [⟨(some 25), .none, (.mov (.t 0)), 0, []⟩, ⟨(some 26), .none, (.mov (.t 5)), 1, []⟩, ⟨(some 27), .none, (.call 66 [(.t 25), (.t 26)]), 2, []⟩, ⟨(some 24), .none, (.mov (.t 27)), 3, []⟩, ⟨(some 28), .none, (.ext (.t 24) 0), 4, []⟩, ⟨(some 29), .none, (.ext (.t 24) 1), 5, []⟩, ⟨(some 6), .none, (.newV [(.int .i64 0), (.slice .none 0 0), (.int .i64 0)]), 6, []⟩, ⟨.none, .none, (.store 3 (.t 6) (.t 28)), 7, []⟩, ⟨(some 7), .none, (.mov (.t 29)), 8, []⟩]) (.seq (.reg false [⟨(some 31), .none, (.mov (.t 1)), 0, []⟩, ⟨(some 32), .none, (.mov (.t 5)), 1, []⟩, ⟨(some 33), .none, (.call 66 [(.t 31), (.t 32)]), 2, []⟩, ⟨(some 30), .none, (.mov (.t 33)), 3, []⟩, ⟨(some 34), .none, (.ext (.t 30) 0), 4, []⟩, ⟨(some 35), .none, (.ext (.t 30) 1), 5, []⟩, ⟨(some 8), .none, (.newV [(.int .i64 0), (.slice .none 0 0), (.int .i64 0)]), 6, []⟩, ⟨.none, .none, (.store 3 (.t 8) (.t 34)), 7, []⟩, ⟨(some 9), .none, (.mov (.t 35)), 8, []⟩]) (.seq (.seq (.reg false [⟨(some 36), .none, (.mov (.t 9)), 0, []⟩, ⟨(some 37), .none, (.un .not (.t 36)), 1, []⟩]) (.cond (.t 37) (.exit 1) .skip)) (.seq (.reg false [⟨(some 38), .none, (.mov (.t 5)), 0, []⟩]) (.block 2 (.seq (.seq (.reg false [⟨(some 49), .none, (.bin .eql (.t 38) (.c (.int .i64 1))), 0, []⟩, ⟨(some 48), .none, (.mov (.t 49)), 1, []⟩]) (.cond (.t 48) .skip (.reg false [⟨(some 50), .none, (.bin .eql (.t 38) (.c (.int .i64 2))), 0, []⟩, ⟨(some 48), .none, (.mov (.t 50)), 1, []⟩]))) (.cond (.t 48) (.seq (.reg false [⟨(some 51), .none, (.mov (.t 7)), 0, []⟩, ⟨(some 52), .none, (.un .not (.t 51)), 1, []⟩, ⟨(some 53), .none, (.mov (.t 52)), 2, []⟩, ⟨(some 54), (.some (53, false)), (.fadr 1 (.t 6)), 3, []⟩, ⟨(some 55), (.some (53, false)), (.load 1 false (.t 54)), 4, []⟩, ⟨(some 56), (.some (53, false)), (.fadr 1 (.t 8)), 5, []⟩, ⟨(some 57), (.some (53, false)), (.load 1 false (.t 56)), 6, []⟩, ⟨(some 58), (.some (53, false)), (.call 67 [(.t 55), (.t 57)]), 7, []⟩, ⟨(some 59), (.some (53, false)), (.un .not (.t 58)), 8, []⟩, ⟨(some 60), .none, (.pick (.t 53) (.c (.bool true)) (.t 59)), 9, []⟩]) (.cond (.t 60) (.seq (.reg false [⟨(some 4), .none, (.mov (.c (.bool false))), 0, []⟩]) .ret) .skip)) (.seq (.reg false [⟨(some 62), .none, (.bin .eql (.t 38) (.c (.int .i64 3))), 0, []⟩, ⟨(some 61), .none, (.mov (.t 62)), 1, []⟩]) (.cond (.t 61) (.seq (.reg false [⟨(some 63), .none, (.fadr 1 (.t 8)), 0, []⟩, ⟨(some 64), .none, (.load 1 false (.t 63)), 1, []⟩, ⟨(some 65), .none, (.fadr 1 (.t 6)), 2, []⟩, ⟨(some 66), .none, (.load 1 false (.t 65)), 3, []⟩, ⟨(some 67), .none, (.call 67 [(.t 64), (.t 66)]), 4, []⟩, ⟨(some 68), .none, (.un .not (.t 67)), 5, []⟩]) (.cond (.t 68) (.seq (.reg false [⟨(some 4), .none, (.mov (.c (.bool false))), 0, []⟩]) .ret) .skip)) (.seq (.reg false [⟨(some 39), .none, (.mov (.t 7)), 0, []⟩, ⟨(some 40), .none, (.un .not (.t 39)), 1, []⟩, ⟨(some 41), .none, (.mov (.t 40)), 2, []⟩, ⟨(some 42), (.some (41, false)), (.fadr 2 (.t 6)), 3, []⟩, ⟨(some 43), (.some (41, false)), (.load 1 false (.t 42)), 4, []⟩, ⟨(some 44), (.some (41, false)), (.fadr 2 (.t 8)), 5, []⟩, ⟨(some 45), (.some (41, false)), (.load 1 false (.t 44)), 6, []⟩, ⟨(some 46), (.some (41, false)), (.bin .gtr (.t 43) (.t 45)), 7, []⟩, ⟨(some 47), .none, (.pick (.t 41) (.c (.bool true)) (.t 46)), 8, []⟩]) (.cond (.t 47) (.seq (.reg false [⟨(some 4), .none, (.mov (.c (.bool false))), 0, []⟩]) .ret) .skip)))))))))))) (.reg false [⟨(some 22), .none, (.mov (.t 5)), 0, []⟩, ⟨(some 23), .none, (.bin .add (.t 22) (.c (.int .i64 1))), 1, []⟩, ⟨(some 5), .none, (.mov (.t 23)), 2, []⟩])))))) (.seq (.reg false [⟨(some 4), .none, (.mov (.c (.bool true))), 0, []⟩]) .ret))))), [(.t 4)]⟩
theorem k33 : EE.fns 33 = some c33 := by kernel_rfl
def c34 : CF := ⟨19, (.seq (.reg false [⟨(some 2), .none, (.mov (.c (.bool false))), 0, []⟩]) (.seq (.seq (.reg false [⟨(some 4), .none, (.mov (.t 0)), 0, []⟩, ⟨(some 5), .none, (.lenS (.t 4)), 1, []⟩, ⟨(some 6), .none, (.bin .gtr (.t 5) (.c (.int .i64 20))), 2, []⟩]) (.cond (.t 6) (.seq (.reg false [⟨(some 2), .none, (.mov (.c (.bool false))), 0, []⟩]) .ret) .skip)) (.seq (.seq (.reg false [⟨(some 3), .none, (.mov (.c (.int .i64 0))), 0, []⟩]) (.block 0 (.loop (.seq (.seq (.reg false [⟨(some 7), .none, (.mov (.t 3)), 0, []⟩, ⟨(some 8), .none, (.mov (.t 0)), 1, []⟩, ⟨(some 9), .none, (.lenS (.t 8)), 2, []⟩, ⟨(some 10), .none, (.bin .lss (.t 7) (.t 9)), 3, []⟩]) (.cond (.t 10) .skip (.exit 0))) (.seq (.block 1 (.seq (.reg false [⟨(some 13), .none, (.mov (.t 0)), 0, []⟩, ⟨(some 14), .none, (.mov (.t 3)), 1, []⟩, ⟨(some 15), .none, (.iadr 3 (.t 13) (.t 14)), 2, []⟩, ⟨(some 16), .none, (.load 3 true (.t 15)), 3, []⟩, ⟨(some 17), .none, (.call 68 [(.t 16)]), 4, []⟩, ⟨(some 18), .none, (.un .not (.t 17)), 5, []⟩]) (.cond (.t 18) (.seq (.reg false [⟨(some 2), .none, (.mov (.c (.bool false))), 0, []⟩]) .ret) .skip))) (.reg false [⟨(some 11), .none, (.mov (.t 3)), 0, []⟩, ⟨(some 12), .none, (.bin .add (.t 11) (.c (.int .i64 1))), 1, []⟩, ⟨(some 3), .none, (.mov (.t 12)), 2, []⟩])))))) (.seq (.reg false [⟨(some 2), .none, (.mov (.c (.bool true))), 0, []⟩]) .ret)))), [(.t 2)]⟩
theorem k34 : EE.fns 34 = some c34 := by kernel_rfl
def c35 : CF := ⟨48, (.seq (.reg false [⟨(some 2), .none, (.mov (.c (.string ⟨#[]⟩))), 0, []⟩]) (.seq (.seq (.reg false [⟨(some 8), .none, (.mov (.t 0)), 0, []⟩, ⟨(some 9), .none, (.call 56 [(.t 8)]), 1, []⟩, ⟨(some 10), .none, (.un .not (.t 9)), 2, []⟩]) (.cond (.t 10) (.seq (.reg false [⟨(some 2), .none, (.mov (.c (.string ⟨#[]⟩))), 0, []⟩]) .ret) .skip)) (.seq (.reg false [⟨(some 11), .none, (.mov (.t 0)), 0, []⟩, ⟨(some 12), .none, (.lenS (.t 11)), 1, []⟩, ⟨(some 13), .none, (.call 69 [(.t 12)]), 2, []⟩, ⟨(some 3), .none, (.mov (.t 13)), 3, []⟩]) (.seq (.seq (.reg false [⟨(some 14), .none, (.mov (.t 0)), 0, []⟩, ⟨(some 15), .none, (.lenS (.t 14)), 1, []⟩, ⟨(some 16), .none, (.mov (.c (.int .i64 0))), 2, []⟩]) (.block 0 (.loop (.seq (.reg false [⟨(some 17), .none, (.bin .lss (.t 16) (.t 15)), 0, []⟩]) (.seq (.cond (.t 17) .skip (.exit 0)) (.seq (.block 1 (.seq (.reg false [⟨(some 18), .none, (.iadr 3 (.t 14) (.t 16)), 0, []⟩, ⟨(some 19), .none, (.load 3 true (.t 18)), 1, []⟩, ⟨(some 5), .none, (.newV [(.int .i64 0), (.slice .none 0 0), (.int .i64 0)]), 2, []⟩, ⟨.none, .none, (.store 3 (.t 5) (.t 19)), 3, []⟩]) (.seq (.reg true [⟨(some 20), .none, (.mov (.t 3)), 0, []⟩, ⟨(some 21), .none, (.fadr 0 (.t 5)), 1, []⟩, ⟨(some 22), .none, (.load 1 false (.t 21)), 2, [1]⟩, ⟨(some 23), .none, (.call 69 [(.t 22)]), 3, [2, 1]⟩, ⟨(some 24), .none, (.bin .add (.t 20) (.t 23)), 4, [0, 3, 2, 1]⟩, ⟨(some 25), .none, (.fadr 2 (.t 5)), 5, []⟩, ⟨(some 26), .none, (.load 1 false (.t 25)), 6, [5]⟩, ⟨(some 27), .none, (.call 69 [(.t 26)]), 7, [6, 5, 3, 2, 1]⟩, ⟨(some 28), .none, (.bin .add (.t 24) (.t 27)), 8, [4, 0, 3, 2, 1, 7, 6, 5]⟩, ⟨(some 29), .none, (.fadr 1 (.t 5)), 9, []⟩, ⟨(some 30), .none, (.load 1 false (.t 29)), 10, [9]⟩, ⟨(some 31), .none, (.lenS (.t 30)), 11, [10, 9]⟩, ⟨(some 32), .none, (.call 69 [(.t 31)]), 12, [11, 10, 9, 7, 6, 5, 3, 2, 1]⟩, ⟨(some 33), .none, (.bin .add (.t 28) (.t 32)), 13, [8, 4, 0, 3, 2, 1, 7, 6, 5, 12, 11, 10, 9]⟩, ⟨(some 3), .none, (.mov (.t 33)), 14, [13, 8, 4, 0, 3, 2, 1, 7, 6, 5, 12, 11, 10, 9]⟩]) (.seq (.reg false [⟨(some 34), .none, (.fadr 1 (.t 5)), 0, []⟩, ⟨(some 35), .none, (.load 1 false (.t 34)), 1, []⟩, ⟨(some 36), .none, (.lenS (.t 35)), 2, []⟩, ⟨(some 37), .none, (.mov (.c (.int .i64 0))), 3, []⟩]) (.block 2 (.loop (.seq (.reg false [⟨(some 38), .none, (.bin .lss (.t 37) (.t 36)), 0, []⟩]) (.seq (.cond (.t 38) .skip (.exit 2)) (.seq (.block 3 (.seq (.reg false [⟨(some 39), .none, (.iadr 1 (.t 35) (.t 37)), 0, []⟩, ⟨(some 40), .none, (.load 1 false (.t 39)), 1, []⟩, ⟨(some 7), .none, (.mov (.t 40)), 2, []⟩]) (.reg false [⟨(some 41), .none, (.mov (.t 3)), 0, []⟩, ⟨(some 42), .none, (.mov (.t 7)), 1, []⟩, ⟨(some 43), .none, (.call 69 [(.t 42)]), 2, []⟩, ⟨(some 44), .none, (.bin .add (.t 41) (.t 43)), 3, []⟩, ⟨(some 3), .none, (.mov (.t 44)), 4, []⟩]))) (.reg false [⟨(some 45), .none, (.bin .add (.t 37) (.c (.int .i64 1))), 0, []⟩, ⟨(some 37), .none, (.mov (.t 45)), 1, []⟩])))))))))) (.reg false [⟨(some 46), .none, (.bin .add (.t 16) (.c (.int .i64 1))), 0, []⟩, ⟨(some 16), .none, (.mov (.t 46)), 1, []⟩]))))))) (.seq (.reg false [⟨(some 47), .none, (.mov (.t 3)), 0, []⟩, ⟨(some 2), .none, (.mov (.t 47)), 1, []⟩]) .ret))))), [(.t 2)]⟩
theorem k35 : EE.fns 35 = some c35 := by kernel_rfl
def c36 : CF := ⟨13, (.seq (.reg false [⟨(some 2), .none, (.mov (.c (.slice .none 0 0))), 0, []⟩, ⟨(some 3), .none, (.newV [(.int .i64 0), (.int .i64 0), (.slice .none 0 0), (.int .i64 0), (.int .i64 0)]), 1, []⟩]) (.seq (.reg false [⟨(some 6), .none, (.mov (.t 0)), 0, []⟩, ⟨(some 7), .none, (.call 50 [(.t 6)]), 1, []⟩, ⟨(some 4), .none, (.mov (.t 7)), 2, []⟩]) (.seq (.reg false [⟨(some 8), .none, (.mov (.t 4)), 0, []⟩, ⟨(some 9), .none, (.call 70 [(.t 8)]), 1, []⟩, ⟨(some 5), .none, (.newV [(.int .i64 0), (.int .i64 0), (.slice .none 0 0), (.int .i64 0), (.int .i64 0)]), 2, []⟩, ⟨.none, .none, (.store 5 (.t 5) (.t 9)), 3, []⟩]) (.seq (.reg true [⟨(some 10), .none, (.mov (.t 4)), 0, []⟩, ⟨(some 11), .none, (.call 55 [(.t 10), (.c (.int .i64 4))]), 1, [0]⟩, ⟨(some 12), .none, (.load 5 true (.t 5)), 2, []⟩, ⟨(some 2), .none, (.mov (.t 11)), 3, [1, 0]⟩, ⟨.none, .none, (.store 5 (.t 3) (.t 12)), 4, [2, 3, 1, 0]⟩]) .ret)))), [(.t 2), (.cell 3 5 true)]⟩
theorem k36 : EE.fns 36 = some c36 := by kernel_rfl
def c37 : CF := ⟨37, (.seq (.reg false [⟨(some 4), .none, (.mov (.c (.slice .none 0 0))), 0, []⟩]) (.seq (.reg false [⟨(some 7), .none, (.mov (.t 1)), 0, []⟩, ⟨(some 8), .none, (.toInt .u8 (.t 7)), 1, []⟩, ⟨(some 9), .none, (.mkO 1 1 [(.int .u8 0)] [(0, (.t 8))]), 2, []⟩, ⟨(some 5), .none, (.mov (.t 9)), 3, []⟩]) (.seq (.seq (.reg false [⟨(some 6), .none, (.mov (.c (.int .i64 0))), 0, []⟩]) (.block 0 (.loop (.seq (.seq (.reg false [⟨(some 10), .none, (.mov (.t 6)), 0, []⟩, ⟨(some 11), .none, (.mov (.t 0)), 1, []⟩, ⟨(some 12), .none, (.lenS (.t 11)), 2, []⟩, ⟨(some 13), .none, (.bin .lss (.t 10) (.t 12)), 3, []⟩, ⟨(some 14), .none, (.mov (.t 13)), 4, []⟩, ⟨(some 15), (.some (14, true)), (.mov (.t 6)), 5, []⟩, ⟨(some 16), (.some (14, true)), (.bin .lss (.t 15) (.c (.int .i64 600))), 6, []⟩, ⟨(some 17), .none, (.pick (.t 14) (.t 16) (.c (.bool false))), 7, []⟩]) (.cond (.t 17) .skip (.exit 0))) (.seq (.block 1 (.reg false [⟨(some 20), .none, (.mov (.t 5)), 0, []⟩, ⟨(some 21), .none, (.mov (.t 0)), 1, []⟩, ⟨(some 22), .none, (.mov (.t 6)), 2, []⟩, ⟨(some 23), .none, (.iadr 1 (.t 21) (.t 22)), 3, []⟩, ⟨(some 24), .none, (.load 1 false (.t 23)), 4, []⟩, ⟨(some 25), .none, (.toInt .i64 (.t 24)), 5, []⟩, ⟨(some 26), .none, (.bin .mul (.t 25) (.c (.int .i64 3))), 6, []⟩, ⟨(some 27), .none, (.mov (.t 1)), 7, []⟩, ⟨(some 28), .none, (.mov (.t 6)), 8, []⟩, ⟨(some 29), .none, (.bin .rem (.t 28) (.c (.int .i64 7))), 9, []⟩, ⟨(some 30), .none, (.bin .add (.t 29) (.c (.int .i64 1))), 10, []⟩, ⟨(some 31), .none, (.bin .mul (.t 27) (.t 30)), 11, []⟩, ⟨(some 32), .none, (.bin .add (.t 26) (.t 31)), 12, []⟩, ⟨(some 33), .none, (.toInt .u8 (.t 32)), 13, []⟩, ⟨(some 34), .none, (.mkV 1 1 [(.int .u8 0)] [(0, (.t 33))]), 14, []⟩, ⟨(some 35), .none, (.app 1 1 (.t 20) (.t 34)), 15, []⟩, ⟨(some 5), .none, (.mov (.t 35)), 16, []⟩])) (.reg false [⟨(some 18), .none, (.mov (.t 6)), 0, []⟩, ⟨(some 19), .none, (.bin .add (.t 18) (.c (.int .i64 1))), 1, []⟩, ⟨(some 6), .none, (.mov (.t 19)), 2, []⟩])))))) (.seq (.reg false [⟨(some 36), .none, (.mov (.t 5)), 0, []⟩, ⟨(some 4), .none, (.mov (.t 36)), 1, []⟩]) .ret)))), [(.t 4)]⟩
theorem k37 : EE.fns 37 = some c37 := by kernel_rfl
def c38 : CF := ⟨22, (.seq (.reg false [⟨(some 3), .none, (.boxV (.t 1)), 0, []⟩, ⟨(some 4), .none, (.mov (.c (.bool false))), 1, []⟩]) (.seq (.seq (.reg false [⟨(some 6), .none, (.mov (.t 0)), 0, []⟩, ⟨(some 7), .none, (.call 34 [(.t 6)]), 1, []⟩, ⟨(some 8), .none, (.un .not (.t 7)), 2, []⟩]) (.cond (.t 8) (.seq (.reg false [⟨(some 4), .none, (.mov (.c (.bool false))), 0, []⟩]) .ret) .skip)) (.seq (.seq (.reg false [⟨(some 5), .none, (.mov (.c (.int .i64 0))), 0, []⟩]) (.block 0 (.loop (.seq (.seq (.reg false [⟨(some 9), .none, (.mov (.t 5)), 0, []⟩, ⟨(some 10), .none, (.mov (.t 0)), 1, []⟩, ⟨(some 11), .none, (.lenS (.t 10)), 2, []⟩, ⟨(some 12), .none, (.bin .lss (.t 9) (.t 11)), 3, []⟩]) (.cond (.t 12) .skip (.exit 0))) (.seq (.block 1 (.seq (.reg true [⟨(some 15), .none, (.mov (.t 0)), 0, []⟩, ⟨(some 16), .none, (.mov (.t 5)), 1, []⟩, ⟨(some 17), .none, (.iadr 3 (.t 15) (.t 16)), 2, [0, 1]⟩, ⟨(some 18), .none, (.load 3 true (.t 17)), 3, [2, 0, 1]⟩, ⟨(some 19), .none, (.load 5 true (.t 3)), 4, []⟩, ⟨(some 20), .none, (.call 71 [(.t 18), (.t 19)]), 5, [3, 2, 0, 1, 4]⟩, ⟨(some 21), .none, (.un .not (.t 20)), 6, [5, 3, 2, 0, 1, 4]⟩]) (.cond (.t 21) (.seq (.reg false [⟨(some 4), .none, (.mov (.c (.bool false))), 0, []⟩]) .ret) .skip))) (.reg false [⟨(some 13), .none, (.mov (.t 5)), 0, []⟩, ⟨(some 14), .none, (.bin .add (.t 13) (.c (.int .i64 1))), 1, []⟩, ⟨(some 5), .none, (.mov (.t 14)), 2, []⟩])))))) (.seq (.reg false [⟨(some 4), .none, (.mov (.c (.bool true))), 0, []⟩]) .ret)))), [(.t 4)]⟩
theorem k38 : EE.fns 38 = some c38 := by kernel_rfl
def c39 : CF := ⟨13, (.seq (.reg false [⟨(some 3), .none, (.boxO (.t 1)), 0, []⟩, ⟨(some 4), .none, (.mov (.c (.bool false))), 1, []⟩]) (.seq (.reg false [⟨(some 5), .none, (.mov (.t 0)), 0, []⟩, ⟨(some 6), .none, (.call 56 [(.t 5)]), 1, []⟩, ⟨(some 7), .none, (.mov (.t 6)), 2, []⟩, ⟨(some 8), (.some (7, true)), (.mov (.t 0)), 3, []⟩, ⟨(some 9), (.some (7, true)), (.fn 72 [(.t 3)]), 4, []⟩, ⟨(some 10), (.some (7, true)), (.call 60 [(.t 8), (.t 9)]), 5, []⟩, ⟨(some 11), (.some (7, true)), (.un .not (.t 10)), 6, []⟩, ⟨(some 12), .none, (.pick (.t 7) (.t 11) (.c (.bool false))), 7, []⟩, ⟨(some 4), .none, (.mov (.t 12)), 8, []⟩]) .ret)), [(.t 4)]⟩
theorem k39 : EE.fns 39 = some c39 := by kernel_rfl
def c55 : CF := ⟨105, (.seq (.reg false [⟨(some 4), .none, (.mov (.c (.slice .none 0 0))), 0, []⟩]) (.seq (.reg false [⟨(some 11), .none, (.mkO 0 3 [(.int .i64 0), (.slice .none 0 0), (.int .i64 0)] []), 0, []⟩, ⟨(some 5), .none, (.mov (.t 11)), 1, []⟩]) (.seq (.seq (.reg false [⟨(some 12), .none, (.mov (.t 0)), 0, []⟩, ⟨(some 13), .none, (.mov (.t 1)), 1, []⟩, ⟨(some 14), .none, (.call 51 [(.t 12), (.t 13)]), 2, []⟩, ⟨(some 6), .none, (.mov (.t 14)), 3, []⟩]) (.block 0 (.loop (.seq (.seq (.reg false [⟨(some 15), .none, (.mov (.t 6)), 0, []⟩, ⟨(some 16), .none, (.bin .gtr (.t 15) (.c (.int .i64 0))), 1, []⟩]) (.cond (.t 16) .skip (.exit 0))) (.seq (.block 1 (.seq (.reg false [⟨(some 19), .none, (.mov (.t 0)), 0, []⟩, ⟨(some 20), .none, (.call 51 [(.t 19), (.c (.int .i64 5))]), 1, []⟩, ⟨(some 21), .none, (.bin .add (.c (.int .i64 1)) (.t 20)), 2, []⟩, ⟨(some 22), .none, (.build [(.int .i64 0), (.slice .none 0 0), (.int .i64 0)] [(0, (1, (.t 21)))]), 3, []⟩, ⟨(some 7), .none, (.newV [(.int .i64 0), (.slice .none 0 0), (.int .i64 0)]), 4, []⟩, ⟨.none, .none, (.store 3 (.t 7) (.t 22)), 5, []⟩]) (.seq (.seq (.reg false [⟨(some 23), .none, (.fadr 0 (.t 7)), 0, []⟩, ⟨(some 24), .none, (.load 1 false (.t 23)), 1, []⟩, ⟨(some 25), .none, (.bin .leq (.t 24) (.c (.int .i64 3))), 2, []⟩]) (.cond (.t 25) (.seq (.reg false [⟨(some 8), .none, (.mov (.c (.int .i64 0))), 0, []⟩]) (.block 2 (.loop (.seq (.seq (.reg false [⟨(some 26), .none, (.mov (.t 8)), 0, []⟩, ⟨(some 27), .none, (.bin .lss (.t 26) (.c (.int .i64 5))), 1, []⟩]) (.cond (.t 27) .skip (.exit 2))) (.seq (.block 3 (.seq (.reg false [⟨(some 30), .none, (.mov (.t 0)), 0, []⟩, ⟨(some 31), .none, (.call 58 [(.t 30), (.c (.int .i64 3))]), 1, []⟩, ⟨(some 32), .none, (.un .not (.t 31)), 2, []⟩]) (.cond (.t 32) (.reg false [⟨(some 33), .none, (.fadr 1 (.t 7)), 0, []⟩, ⟨(some 34), .none, (.load 1 false (.t 33)), 1, []⟩, ⟨(some 35), .none, (.mov (.t 8)), 2, []⟩, ⟨(some 36), .none, (.mkV 1 1 [(.int .i64 0)] [(0, (.t 35))]), 3, []⟩, ⟨(some 37), .none, (.app 1 8 (.t 34) (.t 36)), 4, []⟩, ⟨(some 38), .none, (.fadr 1 (.t 7)), 5, []⟩, ⟨.none, .none, (.store 1 (.t 38) (.t 37)), 6, []⟩]) .skip))) (.reg false [⟨(some 28), .none, (.mov (.t 8)), 0, []⟩, ⟨(some 29), .none, (.bin .add (.t 28) (.c (.int .i64 1))), 1, []⟩, ⟨(some 8), .none, (.mov (.t 29)), 2, []⟩])))))) (.reg false [⟨(some 39), .none, (.mov (.t 0)), 0, []⟩, ⟨(some 40), .none, (.call 51 [(.t 39), (.c (.int .i64 12))]), 1, []⟩, ⟨(some 41), .none, (.fadr 2 (.t 7)), 2, []⟩, ⟨.none, .none, (.store 1 (.t 41) (.t 40)), 3, []⟩]))) (.reg false [⟨(some 42), .none, (.mov (.t 5)), 0, []⟩, ⟨(some 43), .none, (.load 3 true (.t 7)), 1, []⟩, ⟨(some 44), .none, (.mkV 1 3 [(.int .i64 0), (.slice .none 0 0), (.int .i64 0)] [(0, (.t 43))]), 2, []⟩, ⟨(some 45), .none, (.app 3 40 (.t 42) (.t 44)), 3, []⟩, ⟨(some 5), .none, (.mov (.t 45)), 4, []⟩])))) (.reg false [⟨(some 17), .none, (.mov (.t 6)), 0, []⟩, ⟨(some 18), .none, (.bin .sub (.t 17) (.c (.int .i64 1))), 1, []⟩, ⟨(some 6), .none, (.mov (.t 18)), 2, []⟩])))))) (.seq (.seq (.reg false [⟨(some 46), .none, (.mov (.t 5)), 0, []⟩, ⟨(some 47), .none, (.lenS (.t 46)), 1, []⟩, ⟨(some 48), .none, (.bin .gtr (.t 47) (.c (.int .i64 0))), 2, []⟩, ⟨(some 49), .none, (.mov (.t 48)), 3, []⟩, ⟨(some 50), (.some (49, true)), (.mov (.t 0)), 4, []⟩, ⟨(some 51), (.some (49, true)), (.call 58 [(.t 50), (.c (.int .i64 10))]), 5, []⟩, ⟨(some 52), .none, (.pick (.t 49) (.t 51) (.c (.bool false))), 6, []⟩]) (.cond (.t 52) (.seq (.reg false [⟨(some 53), .none, (.mov (.t 0)), 0, []⟩, ⟨(some 54), .none, (.mov (.t 5)), 1, []⟩, ⟨(some 55), .none, (.lenS (.t 54)), 2, []⟩, ⟨(some 56), .none, (.call 51 [(.t 53), (.t 55)]), 3, []⟩, ⟨(some 9), .none, (.mov (.t 56)), 4, []⟩]) (.seq (.reg false [⟨(some 57), .none, (.mov (.t 0)), 0, []⟩, ⟨(some 58), .none, (.call 51 [(.t 57), (.c (.int .i64 4))]), 1, []⟩]) (.block 4 (.seq (.reg false [⟨(some 71), .none, (.bin .eql (.t 58) (.c (.int .i64 0))), 0, []⟩, ⟨(some 70), .none, (.mov (.t 71)), 1, []⟩]) (.cond (.t 70) (.reg false [⟨(some 72), .none, (.mov (.t 5)), 0, []⟩, ⟨(some 73), .none, (.mov (.t 9)), 1, []⟩, ⟨(some 74), .none, (.mov (.t 0)), 2, []⟩, ⟨(some 75), .none, (.mkO 4 1 [(.int .i64 0)] [(0, (.c (.int .i64 0))), (1, (.c (.int .i64 6))), (2, (.c (.int .i64 3))), (3, (.c (.int .i64 4)))]), 3, []⟩, ⟨(some 76), .none, (.call 52 [(.t 74), (.t 75)]), 4, []⟩, ⟨(some 77), .none, (.iadr 3 (.t 72) (.t 73)), 5, []⟩, ⟨(some 78), .none, (.fadr 0 (.t 77)), 6, []⟩, ⟨.none, .none, (.store 1 (.t 78) (.t 76)), 7, []⟩]) (.seq (.reg false [⟨(some 80), .none, (.bin .eql (.t 58) (.c (.int .i64 1))), 0, []⟩, ⟨(some 79), .none, (.mov (.t 80)), 1, []⟩]) (.cond (.t 79) (.reg false [⟨(some 81), .none, (.mov (.t 5)), 0, []⟩, ⟨(some 82), .none, (.mov (.t 9)), 1, []⟩, ⟨(some 83), .none, (.mov (.t 0)), 2, []⟩, ⟨(some 84), .none, (.mkO 3 1 [(.int .i64 0)] [(0, (.c (.int .i64 (-1)))), (1, (.c (.int .i64 1))), (2, (.c (.int .i64 100001)))]), 3, []⟩, ⟨(some 85), .none, (.call 52 [(.t 83), (.t 84)]), 4, []⟩, ⟨(some 86), .none, (.iadr 3 (.t 81) (.t 82)), 5, []⟩, ⟨(some 87), .none, (.fadr 2 (.t 86)), 6, []⟩, ⟨.none, .none, (.store 1 (.t 87) (.t 85)), 7, []⟩]) (.seq (.reg false [⟨(some 89), .none, (.bin .eql (.t 58) (.c (.int .i64 2))), 0, []⟩, ⟨(some 88), .none, (.mov (.t 89)), 1, []⟩]) (.cond (.t 88) (.reg true [⟨(some 90), .none, (.mov (.t 5)), 0, []⟩, ⟨(some 91), .none, (.mov (.t 9)), 1, []⟩, ⟨(some 92), .none, (.mov (.t 5)), 2, []⟩, ⟨(some 93), .none, (.mov (.t 9)), 3, []⟩, ⟨(some 94), .none, (.iadr 3 (.t 92) (.t 93)), 4, [2, 3]⟩, ⟨(some 95), .none, (.fadr 1 (.t 94)), 5, [4, 2, 3]⟩, ⟨(some 96), .none, (.load 1 false (.t 95)), 6, [5, 4, 2, 3]⟩, ⟨(some 97), .none, (.mov (.t 0)), 7, []⟩, ⟨(some 98), .none, (.mkO 3 1 [(.int .i64 0)] [(0, (.c (.int .i64 2))), (1, (.c (.int .i64 30))), (2, (.c (.int .i64 31)))]), 8, []⟩, ⟨(some 99), .none, (.call 52 [(.t 97), (.t 98)]), 9, [7, 8]⟩, ⟨(some 100), .none, (.mkV 1 1 [(.int .i64 0)] [(0, (.t 99))]), 10, [9, 7, 8]⟩, ⟨(some 101), .none, (.app 1 8 (.t 96) (.t 100)), 11, [6, 5, 4, 2, 3, 10, 9, 7, 8]⟩, ⟨(some 102), .none, (.iadr 3 (.t 90) (.t 91)), 12, [0, 1, 2, 3, 4, 5, 6, 7, 8, 9, 10, 11]⟩, ⟨(some 103), .none, (.fadr 1 (.t 102)), 13, [12, 0, 1, 2, 3, 4, 5, 6, 7, 8, 9, 10, 11]⟩, ⟨.none, .none, (.store 1 (.t 103) (.t 101)), 14, [13, 12, 0, 1, 2, 3, 4, 5, 6, 7, 8, 9, 10, 11]⟩]) (.seq (.reg false [⟨(some 59), .none, (.mov (.t 0)), 0, []⟩, ⟨(some 60), .none, (.call 51 [(.t 59), (.c (.int .i64 2))]), 1, []⟩, ⟨(some 61), .none, (.bin .add (.c (.int .i64 20)) (.t 60)), 2, []⟩, ⟨(some 10), .none, (.mov (.t 61)), 3, []⟩]) (.block 5 (.loop (.seq (.seq (.reg false [⟨(some 62), .none, (.mov (.t 5)), 0, []⟩, ⟨(some 63), .none, (.lenS (.t 62)), 1, []⟩, ⟨(some 64), .none, (.mov (.t 10)), 2, []⟩, ⟨(some 65), .none, (.bin .lss (.t 63) (.t 64)), 3, []⟩]) (.cond (.t 65) .skip (.exit 5))) (.block 6 (.reg false [⟨(some 66), .none, (.mov (.t 5)), 0, []⟩, ⟨(some 67), .none, (.build [(.int .i64 0), (.slice .none 0 0), (.int .i64 0)] [(0, (1, (.c (.int .i64 4))))]), 1, []⟩, ⟨(some 68), .none, (.mkV 1 3 [(.int .i64 0), (.slice .none 0 0), (.int .i64 0)] [(0, (.t 67))]), 2, []⟩, ⟨(some 69), .none, (.app 3 40 (.t 66) (.t 68)), 3, []⟩, ⟨(some 5), .none, (.mov (.t 69)), 4, []⟩]))))))))))))))) .skip)) (.seq (.reg false [⟨(some 104), .none, (.mov (.t 5)), 0, []⟩, ⟨(some 4), .none, (.mov (.t 104)), 1, []⟩]) .ret))))), [(.t 4)]⟩
theorem k55 : EE.fns 55 = some c55 := by kernel_rfl
def c56 : CF := ⟨11, (.seq (.reg false [⟨(some 2), .none, (.mov (.c (.bool false))), 0, []⟩]) (.seq (.reg false [⟨(some 3), .none, (.mov (.t 0)), 0, []⟩, ⟨(some 4), .none, (.lenS (.t 3)), 1, []⟩, ⟨(some 5), .none, (.bin .leq (.t 4) (.c (.int .i64 20))), 2, []⟩, ⟨(some 6), .none, (.mov (.t 5)), 3, []⟩, ⟨(some 7), (.some (6, true)), (.mov (.t 0)), 4, []⟩, ⟨(some 8), (.some (6, true)), (.call 60 [(.t 7), (.f 78)]), 5, []⟩, ⟨(some 9), (.some (6, true)), (.un .not (.t 8)), 6, []⟩, ⟨(some 10), .none, (.pick (.t 6) (.t 9) (.c (.bool false))), 7, []⟩, ⟨(some 2), .none, (.mov (.t 10)), 8, []⟩]) .ret)), [(.t 2)]⟩
theorem k56 : EE.fns 56 = some c56 := by kernel_rfl
def c57 : CF := ⟨51, (.seq (.reg false [⟨(some 2), .none, (.mov (.c (.slice .none 0 0))), 0, []⟩]) (.seq (.reg false [⟨(some 8), .none, (.mkO 0 3 [(.int .i64 0), (.slice .none 0 0), (.int .i64 0)] []), 0, []⟩, ⟨(some 3), .none, (.mov (.t 8)), 1, []⟩]) (.seq (.seq (.reg false [⟨(some 4), .none, (.mov (.c (.int .i64 1))), 0, []⟩]) (.block 0 (.loop (.seq (.seq (.reg false [⟨(some 9), .none, (.mov (.t 4)), 0, []⟩, ⟨(some 10), .none, (.bin .leq (.t 9) (.c (.int .i64 5))), 1, []⟩]) (.cond (.t 10) .skip (.exit 0))) (.seq (.block 1 (.seq (.reg false [⟨(some 5), .none, (.mov (.c (.bool false))), 0, []⟩]) (.seq (.reg false [⟨(some 13), .none, (.mov (.t 0)), 0, []⟩, ⟨(some 14), .none, (.lenS (.t 13)), 1, []⟩, ⟨(some 15), .none, (.mov (.c (.int .i64 0))), 2, []⟩]) (.block 2 (.loop (.seq (.reg false [⟨(some 16), .none, (.bin .lss (.t 15) (.t 14)), 0, []⟩]) (.seq (.cond (.t 16) .skip (.exit 2)) (.seq (.block 3 (.seq (.reg false [⟨(some 17), .none, (.iadr 3 (.t 13) (.t 15)), 0, []⟩, ⟨(some 18), .none, (.load 3 true (.t 17)), 1, []⟩, ⟨(some 7), .none, (.newV [(.int .i64 0), (.slice .none 0 0), (.int .i64 0)]), 2, []⟩, ⟨.none, .none, (.store 3 (.t 7) (.t 18)), 3, []⟩]) (.block 4 (.seq (.reg false [⟨(some 30), .none, (.fadr 0 (.t 7)), 0, []⟩, ⟨(some 31), .none, (.load 1 false (.t 30)), 1, []⟩, ⟨(some 32), .none, (.mov (.t 4)), 2, []⟩, ⟨(some 33), .none, (.bin .neq (.t 31) (.t 32)), 3, []⟩, ⟨(some 29), .none, (.mov (.t 33)), 4, []⟩]) (.cond (.t 29) .skip (.seq (.reg false [⟨(some 35), .none, (.mov (.t 5)), 0, []⟩, ⟨(some 34), .none, (.mov (.t 35)), 1, []⟩]) (.cond (.t 34) (.reg true [⟨(some 36), .none, (.mov (.t 3)), 0, []⟩, ⟨(some 37), .none, (.mov (.t 3)), 1, []⟩, ⟨(some 38), .none, (.lenS (.t 37)), 2, [1]⟩, ⟨(some 39), .none, (.bin .sub (.t 38) (.c (.int .i64 1))), 3, [2, 1]⟩, ⟨(some 40), .none, (.mov (.t 3)), 4, []⟩, ⟨(some 41), .none, (.mov (.t 3)), 5, []⟩, ⟨(some 42), .none, (.lenS (.t 41)), 6, [5]⟩, ⟨(some 43), .none, (.bin .sub (.t 42) (.c (.int .i64 1))), 7, [6, 5]⟩, ⟨(some 44), .none, (.iadr 3 (.t 40) (.t 43)), 8, [4, 7, 6, 5]⟩, ⟨(some 45), .none, (.load 3 true (.t 44)), 9, [8, 4, 7, 6, 5]⟩, ⟨(some 46), .none, (.load 3 true (.t 7)), 10, []⟩, ⟨(some 47), .none, (.call 80 [(.t 45), (.t 46)]), 11, [9, 8, 4, 7, 6, 5, 10]⟩, ⟨(some 48), .none, (.iadr 3 (.t 36) (.t 39)), 12, [0, 3, 2, 1, 4, 5, 6, 7, 8, 9, 10, 11]⟩, ⟨.none, .none, (.store 3 (.t 48) (.t 47)), 13, [12, 0, 3, 2, 1, 4, 5, 6, 7, 8, 9, 10, 11]⟩]) (.seq (.reg false [⟨(some 5), .none, (.mov (.c (.bool true))), 0, []⟩]) (.reg true [⟨(some 19), .none, (.mov (.t 3)), 0, []⟩, ⟨(some 20), .none, (.mov (.t 4)), 1, []⟩, ⟨(some 21), .none, (.fadr 1 (.t 7)), 2, []⟩, ⟨(some 22), .none, (.load 1 false (.t 21)), 3, [2]⟩, ⟨(some 23), .none, (.call 81 [(.t 22)]), 4, [3, 2]⟩, ⟨(some 24), .none, (.fadr 2 (.t 7)), 5, []⟩, ⟨(some 25), .none, (.load 1 false (.t 24)), 6, [5]⟩, ⟨(some 26), .none, (.build [(.int .i64 0), (.slice .none 0 0), (.int .i64 0)] [(0, (1, (.t 20))), (1, (1, (.t 23))), (2, (1, (.t 25)))]), 7, [1, 4, 3, 2, 6, 5]⟩, ⟨(some 27), .none, (.mkV 1 3 [(.int .i64 0), (.slice .none 0 0), (.int .i64 0)] [(0, (.t 26))]), 8, [7, 1, 4, 3, 2, 6, 5]⟩, ⟨(some 28), .none, (.app 3 40 (.t 19) (.t 27)), 9, [0, 8, 7, 1, 4, 3, 2, 6, 5]⟩, ⟨(some 3), .none, (.mov (.t 28)), 10, [9, 0, 8, 7, 1, 4, 3, 2, 6, 5]⟩]))))))))) (.reg false [⟨(some 49), .none, (.bin .add (.t 15) (.c (.int .i64 1))), 0, []⟩, ⟨(some 15), .none, (.mov (.t 49)), 1, []⟩]))))))))) (.reg false [⟨(some 11), .none, (.mov (.t 4)), 0, []⟩, ⟨(some 12), .none, (.bin .add (.t 11) (.c (.int .i64 1))), 1, []⟩, ⟨(some 4), .none, (.mov (.t 12)), 2, []⟩])))))) (.seq (.reg false [⟨(some 50), .none, (.mov (.t 3)), 0, []⟩, ⟨(some 2), .none, (.mov (.t 50)), 1, []⟩]) .ret)))), [(.t 2)]⟩
theorem k57 : EE.fns 57 = some c57 := by kernel_rfl
def c60 : CF := ⟨9, (.seq (.reg false [⟨(some 4), .none, (.mov (.c (.bool false))), 0, []⟩]) (.seq (.reg false [⟨(some 5), .none, (.mov (.t 0)), 0, []⟩, ⟨(some 6), .none, (.mov (.t 1)), 1, []⟩, ⟨(some 7), .none, (.call 62 [(.t 5), (.t 6)]), 2, []⟩, ⟨(some 8), .none, (.bin .geq (.t 7) (.c (.int .i64 0))), 3, []⟩, ⟨(some 4), .none, (.mov (.t 8)), 4, []⟩]) .ret)), [(.t 4)]⟩
theorem k60 : EE.fns 60 = some c60 := by kernel_rfl
def c61 : CF := ⟨22, (.seq (.reg false [⟨(some 1), .none, (.boxV (.t 0)), 0, []⟩, ⟨(some 2), .none, (.mov (.c (.bool false))), 1, []⟩]) (.seq (.reg false [⟨(some 3), .none, (.fadr 0 (.t 1)), 0, []⟩, ⟨(some 4), .none, (.load 1 false (.t 3)), 1, []⟩, ⟨(some 5), .none, (.bin .leq (.t 4) (.c (.int .i64 2))), 2, []⟩, ⟨(some 6), .none, (.mov (.t 5)), 3, []⟩, ⟨(some 7), (.some (6, true)), (.fadr 1 (.t 1)), 4, []⟩, ⟨(some 8), (.some (6, true)), (.load 1 false (.t 7)), 5, []⟩, ⟨(some 9), (.some (6, true)), (.lenS (.t 8)), 6, []⟩, ⟨(some 10), (.some (6, true)), (.bin .eql (.t 9) (.c (.int .i64 0))), 7, []⟩, ⟨(some 11), .none, (.pick (.t 6) (.t 10) (.c (.bool false))), 8, []⟩, ⟨(some 12), .none, (.mov (.t 11)), 9, []⟩, ⟨(some 13), (.some (12, false)), (.fadr 0 (.t 1)), 10, []⟩, ⟨(some 14), (.some (12, false)), (.load 1 false (.t 13)), 11, []⟩, ⟨(some 15), (.some (12, false)), (.bin .eql (.t 14) (.c (.int .i64 5))), 12, []⟩, ⟨(some 16), (.some (12, false)), (.mov (.t 15)), 13, []⟩, ⟨(some 17), (.some (16, true)), (.fadr 2 (.t 1)), 14, []⟩, ⟨(some 18), (.some (16, true)), (.load 1 false (.t 17)), 15, []⟩, ⟨(some 19), (.some (16, true)), (.bin .eql (.t 18) (.c (.int .i64 0))), 16, []⟩, ⟨(some 20), (.some (12, false)), (.pick (.t 16) (.t 19) (.c (.bool false))), 17, []⟩, ⟨(some 21), .none, (.pick (.t 12) (.c (.bool true)) (.t 20)), 18, []⟩, ⟨(some 2), .none, (.mov (.t 21)), 19, []⟩]) .ret)), [(.t 2)]⟩
theorem k61 : EE.fns 61 = some c61 := by kernel_rfl
def c62 : CF := ⟨19, (.seq (.reg false [⟨(some 4), .none, (.mov (.c (.int .i64 0))), 0, []⟩]) (.seq (.seq (.reg false [⟨(some 6), .none, (.mov (.t 0)), 0, []⟩, ⟨(some 7), .none, (.lenS (.t 6)), 1, []⟩, ⟨(some 8), .none, (.mov (.c (.int .i64 0))), 2, []⟩]) (.block 0 (.loop (.seq (.reg false [⟨(some 9), .none, (.bin .lss (.t 8) (.t 7)), 0, []⟩]) (.seq (.cond (.t 9) .skip (.exit 0)) (.seq (.block 1 (.seq (.reg false [⟨(some 10), .none, (.mov (.t 8)), 0, []⟩, ⟨(some 5), .none, (.mov (.t 10)), 1, []⟩]) (.seq (.reg false [⟨(some 11), .none, (.mov (.t 1)), 0, []⟩, ⟨(some 12), .none, (.mov (.t 0)), 1, []⟩, ⟨(some 13), .none, (.mov (.t 5)), 2, []⟩, ⟨(some 14), .none, (.iadr 3 (.t 12) (.t 13)), 3, []⟩, ⟨(some 15), .none, (.load 3 true (.t 14)), 4, []⟩, ⟨(some 16), .none, (.callV (.t 11) [(.t 15)]), 5, []⟩]) (.cond (.t 16) (.seq (.reg false [⟨(some 17), .none, (.mov (.t 5)), 0, []⟩, ⟨(some 4), .none, (.mov (.t 17)), 1, []⟩]) .ret) .skip)))) (.reg false [⟨(some 18), .none, (.bin .add (.t 8) (.c (.int .i64 1))), 0, []⟩, ⟨(some 8), .none, (.mov (.t 18)), 1, []⟩]))))))) (.seq (.reg false [⟨(some 4), .none, (.mov (.c (.int .i64 (-1)))), 0, []⟩]) .ret))), [(.t 4)]⟩
theorem k62 : EE.fns 62 = some c62 := by kernel_rfl
def c63 : CF := ⟨9, (.seq (.reg false [⟨(some 2), .none, (.boxV (.t 0)), 0, []⟩, ⟨(some 3), .none, (.mov (.c (.bool false))), 1, []⟩]) (.seq (.reg false [⟨(some 4), .none, (.fadr 0 (.t 2)), 0, []⟩, ⟨(some 5), .none, (.load 1 false (.t 4)), 1, []⟩, ⟨(some 6), .none, (.fadr 0 (.t 1)), 2, []⟩, ⟨(some 7), .none, (.load 1 false (.t 6)), 3, []⟩, ⟨(some 8), .none, (.bin .eql (.t 5) (.t 7)), 4, []⟩, ⟨(some 3), .none, (.mov (.t 8)), 5, []⟩]) .ret)), [(.t 3)]⟩
theorem k63 : EE.fns 63 = some c63 := by kernel_rfl
def c64 : CF := ⟨9, (.seq (.reg false [⟨(some 3), .none, (.boxO (.t 1)), 0, []⟩, ⟨(some 4), .none, (.mov (.c (.bool false))), 1, []⟩]) (.seq (.reg false [⟨(some 5), .none, (.mov (.t 0)), 0, []⟩, ⟨(some 6), .none, (.fn 84 [(.t 3)]), 1, []⟩, ⟨(some 7), .none, (.call 83 [(.t 5), (.t 6)]), 2, []⟩, ⟨(some 8), .none, (.un .not (.t 7)), 3, []⟩, ⟨(some 4), .none, (.mov (.t 8)), 4, []⟩]) .ret)), [(.t 4)]⟩
theorem k64 : EE.fns 64 = some c64 := by kernel_rfl
def c65 : CF := ⟨36, (.seq (.reg false [⟨(some 2), .none, (.mov (.c (.bool false))), 0, []⟩]) (.seq (.seq (.reg false [⟨(some 3), .none, (.mov (.c (.int .i64 1))), 0, []⟩]) (.block 0 (.loop (.seq (.seq (.reg false [⟨(some 6), .none, (.mov (.t 3)), 0, []⟩, ⟨(some 7), .none, (.bin .leq (.t 6) (.c (.int .i64 5))), 1, []⟩]) (.cond (.t 7) .skip (.exit 0))) (.seq (.block 1 (.seq (.reg false [⟨(some 11), .none, (.mov (.t 0)), 0, []⟩, ⟨(some 12), .none, (.mov (.t 3)), 1, []⟩, ⟨(some 13), .none, (.call 66 [(.t 11), (.t 12)]), 2, []⟩, ⟨(some 10), .none, (.mov (.t 13)), 3, []⟩, ⟨(some 14), .none, (.ext (.t 10) 0), 4, []⟩, ⟨(some 15), .none, (.ext (.t 10) 1), 5, []⟩, ⟨(some 4), .none, (.newV [(.int .i64 0), (.slice .none 0 0), (.int .i64 0)]), 6, []⟩, ⟨.none, .none, (.store 3 (.t 4) (.t 14)), 7, []⟩, ⟨(some 5), .none, (.mov (.t 15)), 8, []⟩]) (.seq (.reg false [⟨(some 16), .none, (.mov (.t 5)), 0, []⟩, ⟨(some 17), .none, (.mov (.t 16)), 1, []⟩, ⟨(some 18), (.some (17, true)), (.mov (.t 3)), 2, []⟩, ⟨(some 19), (.some (17, true)), (.bin .leq (.t 18) (.c (.int .i64 2))), 3, []⟩, ⟨(some 20), (.some (17, true)), (.mov (.t 19)), 4, []⟩, ⟨(some 21), (.some (20, true)), (.fadr 1 (.t 4)), 5, []⟩, ⟨(some 22), (.some (20, true)), (.load 1 false (.t 21)), 6, []⟩, ⟨(some 23), (.some (20, true)), (.lenS (.t 22)), 7, []⟩, ⟨(some 24), (.some (20, true)), (.bin .eql (.t 23) (.c (.int .i64 0))), 8, []⟩, ⟨(some 25), (.some (17, true)), (.pick (.t 20) (.t 24) (.c (.bool false))), 9, []⟩, ⟨(some 26), (.some (17, true)), (.mov (.t 25)), 10, []⟩, ⟨(some 27), (.some (26, false)), (.mov (.t 3)), 11, []⟩, ⟨(some 28), (.some (26, false)), (.bin .eql (.t 27) (.c (.int .i64 5))), 12, []⟩, ⟨(some 29), (.some (26, false)), (.mov (.t 28)), 13, []⟩, ⟨(some 30), (.some (29, true)), (.fadr 2 (.t 4)), 14, []⟩, ⟨(some 31), (.some (29, true)), (.load 1 false (.t 30)), 15, []⟩, ⟨(some 32), (.some (29, true)), (.bin .eql (.t 31) (.c (.int .i64 0))), 16, []⟩, ⟨(some 33), (.some (26, false)), (.pick (.t 29) (.t 32) (.c (.bool false))), 17, []⟩, ⟨(some 34), (.some (17, true)), (.pick (.t 26) (.c (.bool true)) (.t 33)), 18, []⟩, ⟨(some 35), .none, (.pick (.t 17) (.t 34) (.c (.bool false))), 19, []⟩]) (.cond (.t 35) (.seq (.reg false [⟨(some 2), .none, (.mov (.c (.bool true))), 0, []⟩]) .ret) .skip)))) (.reg false [⟨(some 8), .none, (.mov (.t 3)), 0, []⟩, ⟨(some 9), .none, (.bin .add (.t 8) (.c (.int .i64 1))), 1, []⟩, ⟨(some 3), .none, (.mov (.t 9)), 2, []⟩])))))) (.seq (.reg false [⟨(some 2), .none, (.mov (.c (.bool false))), 0, []⟩]) .ret))), [(.t 2)]⟩
theorem k65 : EE.fns 65 = some c65 := by kernel_rfl
def c66 : CF := ⟨46, (.seq (.reg false [⟨(some 4), .none, (.newV [(.int .i64 0), (.slice .none 0 0), (.int .i64 0)]), 0, []⟩, ⟨(some 5), .none, (.mov (.c (.bool false))), 1, []⟩]) (.seq (.reg false [⟨(some 9), .none, (.build [(.int .i64 0), (.slice .none 0 0), (.int .i64 0)] []), 0, []⟩, ⟨(some 6), .none, (.newV [(.int .i64 0), (.slice .none 0 0), (.int .i64 0)]), 1, []⟩, ⟨.none, .none, (.store 3 (.t 6) (.t 9)), 2, []⟩]) (.seq (.reg false [⟨(some 7), .none, (.mov (.c (.bool false))), 0, []⟩]) (.seq (.seq (.reg false [⟨(some 8), .none, (.mov (.c (.int .i64 0))), 0, []⟩]) (.block 0 (.loop (.seq (.seq (.reg false [⟨(some 10), .none, (.mov (.t 8)), 0, []⟩, ⟨(some 11), .none, (.mov (.t 0)), 1, []⟩, ⟨(some 12), .none, (.lenS (.t 11)), 2, []⟩, ⟨(some 13), .none, (.bin .lss (.t 10) (.t 12)), 3, []⟩]) (.cond (.t 13) .skip (.exit 0))) (.seq (.block 1 (.seq (.seq (.reg false [⟨(some 16), .none, (.mov (.t 0)), 0, []⟩, ⟨(some 17), .none, (.mov (.t 8)), 1, []⟩, ⟨(some 18), .none, (.iadr 3 (.t 16) (.t 17)), 2, []⟩, ⟨(some 19), .none, (.fadr 0 (.t 18)), 3, []⟩, ⟨(some 20), .none, (.load 1 false (.t 19)), 4, []⟩, ⟨(some 21), .none, (.mov (.t 1)), 5, []⟩, ⟨(some 22), .none, (.bin .neq (.t 20) (.t 21)), 6, []⟩]) (.cond (.t 22) (.exit 1) .skip)) (.seq (.reg false [⟨(some 23), .none, (.mov (.t 7)), 0, []⟩]) (.cond (.t 23) (.reg true [⟨(some 24), .none, (.load 3 true (.t 6)), 0, []⟩, ⟨(some 25), .none, (.mov (.t 0)), 1, []⟩, ⟨(some 26), .none, (.mov (.t 8)), 2, []⟩, ⟨(some 27), .none, (.iadr 3 (.t 25) (.t 26)), 3, [1, 2]⟩, ⟨(some 28), .none, (.load 3 true (.t 27)), 4, [3, 1, 2]⟩, ⟨(some 29), .none, (.call 86 [(.t 24), (.t 28)]), 5, [0, 4, 3, 1, 2]⟩, ⟨.none, .none, (.store 3 (.t 6) (.t 29)), 6, [5, 0, 4, 3, 1, 2]⟩]) (.seq (.reg true [⟨(some 30), .none, (.mov (.t 1)), 0, []⟩, ⟨(some 31), .none, (.mkO 0 1 [(.int .i64 0)] []), 1, []⟩, ⟨(some 32), .none, (.mov (.t 0)), 2, []⟩, ⟨(some 33), .none, (.mov (.t 8)), 3, []⟩, ⟨(some 34), .none, (.iadr 3 (.t 32) (.t 33)), 4, [2, 3]⟩, ⟨(some 35), .none, (.fadr 1 (.t 34)), 5, [4, 2, 3]⟩, ⟨(some 36), .none, (.load 1 false (.t 35)), 6, [5, 4, 2, 3]⟩, ⟨(some 37), .none, (.app 1 8 (.t 31) (.t 36)), 7, [1, 6, 5, 4, 2, 3]⟩, ⟨(some 38), .none, (.mov (.t 0)), 8, []⟩, ⟨(some 39), .none, (.mov (.t 8)), 9, []⟩, ⟨(some 40), .none, (.iadr 3 (.t 38) (.t 39)), 10, [8, 9]⟩, ⟨(some 41), .none, (.fadr 2 (.t 40)), 11, [10, 8, 9]⟩, ⟨(some 42), .none, (.load 1 false (.t 41)), 12, [11, 10, 8, 9]⟩, ⟨(some 43), .none, (.build [(.int .i64 0), (.slice .none 0 0), (.int .i64 0)] [(0, (1, (.t 30))), (1, (1, (.t 37))), (2, (1, (.t 42)))]), 13, [0, 7, 1, 6, 5, 4, 2, 3, 12, 11, 10, 8, 9]⟩, ⟨.none, .none, (.store 3 (.t 6) (.t 43)), 14, [13, 0, 7, 1, 6, 5, 4, 2, 3, 12, 11, 10, 8, 9]⟩]) (.reg false [⟨(some 7), .none, (.mov (.c (.bool true))), 0, []⟩])))))) (.reg false [⟨(some 14), .none, (.mov (.t 8)), 0, []⟩, ⟨(some 15), .none, (.bin .add (.t 14) (.c (.int .i64 1))), 1, []⟩, ⟨(some 8), .none, (.mov (.t 15)), 2, []⟩])))))) (.seq (.reg false [⟨(some 44), .none, (.load 3 true (.t 6)), 0, []⟩, ⟨(some 45), .none, (.mov (.t 7)), 1, []⟩, ⟨.none, .none, (.store 3 (.t 4) (.t 44)), 2, []⟩, ⟨(some 5), .none, (.mov (.t 45)), 3, []⟩]) .ret))))), [(.cell 4 3 true), (.t 5)]⟩
theorem k66 : EE.fns 66 = some c66 := by kernel_rfl
def c67 : CF := ⟨19, (.seq (.reg false [⟨(some 4), .none, (.mov (.c (.bool false))), 0, []⟩]) (.seq (.seq (.reg false [⟨(some 5), .none, (.mov (.c (.int .i64 0))), 0, []⟩]) (.block 0 (.loop (.seq (.seq (.reg false [⟨(some 6), .none, (.mov (.t 5)), 0, []⟩, ⟨(some 7), .none, (.mov (.t 0)), 1, []⟩, ⟨(some 8), .none, (.lenS (.t 7)), 2, []⟩, ⟨(some 9), .none, (.bin .lss (.t 6) (.t 8)), 3, []⟩]) (.cond (.t 9) .skip (.exit 0))) (.seq (.block 1 (.seq (.reg false [⟨(some 12), .none, (.mov (.t 1)), 0, []⟩, ⟨(some 13), .none, (.mov (.t 0)), 1, []⟩, ⟨(some 14), .none, (.mov (.t 5)), 2, []⟩, ⟨(some 15), .none, (.iadr 1 (.t 13) (.t 14)), 3, []⟩, ⟨(some 16), .none, (.load 1 false (.t 15)), 4, []⟩, ⟨(some 17), .none, (.call 87 [(.t 12), (.t 16)]), 5, []⟩, ⟨(some 18), .none, (.un .not (.t 17)), 6, []⟩]) (.cond (.t 18) (.seq (.reg false [⟨(some 4), .none, (.mov (.c (.bool false))), 0, []⟩]) .ret) .skip))) (.reg false [⟨(some 10), .none, (.mov (.t 5)), 0, []⟩, ⟨(some 11), .none, (.bin .add (.t 10) (.c (.int .i64 1))), 1, []⟩, ⟨(some 5), .none, (.mov (.t 11)), 2, []⟩])))))) (.seq (.reg false [⟨(some 4), .none, (.mov (.c (.bool true))), 0, []⟩]) .ret))), [(.t 4)]⟩
theorem k67 : EE.fns 67 = some c67 := by kernel_rfl
def c68 : CF := ⟨28, (.seq (.reg false [⟨(some 1), .none, (.boxV (.t 0)), 0, []⟩, ⟨(some 2), .none, (.mov (.c (.bool false))), 1, []⟩]) (.seq (.seq (.reg false [⟨(some 3), .none, (.fadr 0 (.t 1)), 0, []⟩, ⟨(some 4), .none, (.load 1 false (.t 3)), 1, []⟩, ⟨(some 5), .none, (.call 45 [(.t 4), (.c (.int .i64 1)), (.c (.int .i64 3))]), 2, []⟩]) (.cond (.t 5) (.seq (.reg false [⟨(some 6), .none, (.fadr 2 (.t 1)), 0, []⟩, ⟨(some 7), .none, (.load 1 false (.t 6)), 1, []⟩, ⟨(some 8), .none, (.bin .eql (.t 7) (.c (.int .i64 0))), 2, []⟩, ⟨(some 9), .none, (.mov (.t 8)), 3, []⟩, ⟨(some 10), (.some (9, true)), (.fadr 1 (.t 1)), 4, []⟩, ⟨(some 11), (.some (9, true)), (.load 1 false (.t 10)), 5, []⟩, ⟨(some 12), (.some (9, true)), (.call 88 [(.t 11)]), 6, []⟩, ⟨(some 13), .none, (.pick (.t 9) (.t 12) (.c (.bool false))), 7, []⟩, ⟨(some 2), .none, (.mov (.t 13)), 8, []⟩]) .ret) .skip)) (.seq (.reg false [⟨(some 14), .none, (.fadr 0 (.t 1)), 0, []⟩, ⟨(some 15), .none, (.load 1 false (.t 14)), 1, []⟩, ⟨(some 16), .none, (.call 45 [(.t 15), (.c (.int .i64 4)), (.c (.int .i64 5))]), 2, []⟩, ⟨(some 17), .none, (.mov (.t 16)), 3, []⟩, ⟨(some 18), (.some (17, true)), (.fadr 1 (.t 1)), 4, []⟩, ⟨(some 19), (.some (17, true)), (.load 1 false (.t 18)), 5, []⟩, ⟨(some 20), (.some (17, true)), (.lenS (.t 19)), 6, []⟩, ⟨(some 21), (.some (17, true)), (.bin .eql (.t 20) (.c (.int .i64 0))), 7, []⟩, ⟨(some 22), .none, (.pick (.t 17) (.t 21) (.c (.bool false))), 8, []⟩, ⟨(some 23), .none, (.mov (.t 22)), 9, []⟩, ⟨(some 24), (.some (23, true)), (.fadr 2 (.t 1)), 10, []⟩, ⟨(some 25), (.some (23, true)), (.load 1 false (.t 24)), 11, []⟩, ⟨(some 26), (.some (23, true)), (.call 45 [(.t 25), (.c (.int .i64 0)), (.c (.int .i64 100000))]), 12, []⟩, ⟨(some 27), .none, (.pick (.t 23) (.t 26) (.c (.bool false))), 13, []⟩, ⟨(some 2), .none, (.mov (.t 27)), 14, []⟩]) .ret))), [(.t 2)]⟩
theorem k68 : EE.fns 68 = some c68 := by kernel_rfl
def c69 : CF := ⟨25, (.seq (.reg false [⟨(some 2), .none, (.mov (.c (.string ⟨#[]⟩))), 0, []⟩]) (.seq (.seq (.reg false [⟨(some 4), .none, (.mov (.t 0)), 0, []⟩, ⟨(some 5), .none, (.call 48 [(.t 4), (.c (.int .i64 0)), (.c (.int .i64 562949953421311))]), 1, []⟩, ⟨(some 6), .none, (.un .not (.t 5)), 2, []⟩]) (.cond (.t 6) (.seq (.reg false [⟨(some 2), .none, (.mov (.c (.string ⟨#[]⟩))), 0, []⟩]) .ret) .skip)) (.seq (.reg false [⟨(some 7), .none, (.mkO 0 1 [(.int .u8 0)] []), 0, []⟩, ⟨(some 3), .none, (.mov (.t 7)), 1, []⟩]) (.seq (.block 0 (.loop (.seq (.seq (.reg false [⟨(some 8), .none, (.mov (.t 0)), 0, []⟩, ⟨(some 9), .none, (.bin .gtr (.t 8) (.c (.int .i64 127))), 1, []⟩]) (.cond (.t 9) .skip (.exit 0))) (.block 1 (.seq (.reg false [⟨(some 10), .none, (.mov (.t 3)), 0, []⟩, ⟨(some 11), .none, (.mov (.t 0)), 1, []⟩, ⟨(some 12), .none, (.bin .and (.t 11) (.c (.int .i64 127))), 2, []⟩, ⟨(some 13), .none, (.bin .or (.t 12) (.c (.int .i64 128))), 3, []⟩, ⟨(some 14), .none, (.toInt .u8 (.t 13)), 4, []⟩, ⟨(some 15), .none, (.mkV 1 1 [(.int .u8 0)] [(0, (.t 14))]), 5, []⟩, ⟨(some 16), .none, (.app 1 1 (.t 10) (.t 15)), 6, []⟩, ⟨(some 3), .none, (.mov (.t 16)), 7, []⟩]) (.reg false [⟨(some 17), .none, (.mov (.t 0)), 0, []⟩, ⟨(some 18), .none, (.bin .shr (.t 17) (.c (.int .u64 7))), 1, []⟩, ⟨(some 0), .none, (.mov (.t 18)), 2, []⟩])))))) (.seq (.reg false [⟨(some 19), .none, (.mov (.t 3)), 0, []⟩, ⟨(some 20), .none, (.mov (.t 0)), 1, []⟩, ⟨(some 21), .none, (.toInt .u8 (.t 20)), 2, []⟩, ⟨(some 22), .none, (.mkV 1 1 [(.int .u8 0)] [(0, (.t 21))]), 3, []⟩, ⟨(some 23), .none, (.app 1 1 (.t 19) (.t 22)), 4, []⟩, ⟨(some 24), .none, (.b2s (.t 23)), 5, []⟩, ⟨(some 2), .none, (.mov (.t 24)), 6, []⟩]) .ret))))), [(.t 2)]⟩
theorem k69 : EE.fns 69 = some c69 := by kernel_rfl
def c70 : CF := ⟨28, (.seq (.reg false [⟨(some 2), .none, (.newV [(.int .i64 0), (.int .i64 0), (.slice .none 0 0), (.int .i64 0), (.int .i64 0)]), 0, []⟩]) (.seq (.reg false [⟨(some 5), .none, (.mov (.t 0)), 0, []⟩, ⟨(some 6), .none, (.call 51 [(.t 5), (.c (.int .i64 6))]), 1, []⟩, ⟨(some 7), .none, (.mov (.t 0)), 2, []⟩, ⟨(some 8), .none, (.call 51 [(.t 7), (.c (.int .i64 6))]), 3, []⟩, ⟨(some 9), .none, (.mov (.t 0)), 4, []⟩, ⟨(some 10), .none, (.call 51 [(.t 9), (.c (.int .i64 14))]), 5, []⟩, ⟨(some 11), .none, (.mov (.t 0)), 6, []⟩, ⟨(some 12), .none, (.call 51 [(.t 11), (.c (.int .i64 12))]), 7, []⟩, ⟨(some 13), .none, (.build [(.int .i64 0), (.int .i64 0), (.slice .none 0 0), (.int .i64 0), (.int .i64 0)] [(0, (1, (.t 6))), (1, (1, (.t 8))), (3, (1, (.t 10))), (4, (1, (.t 12)))]), 8, []⟩, ⟨(some 3), .none, (.newV [(.int .i64 0), (.int .i64 0), (.slice .none 0 0), (.int .i64 0), (.int .i64 0)]), 9, []⟩, ⟨.none, .none, (.store 5 (.t 3) (.t 13)), 10, []⟩]) (.seq (.seq (.reg false [⟨(some 4), .none, (.mov (.c (.int .i64 0))), 0, []⟩]) (.block 0 (.loop (.seq (.seq (.reg false [⟨(some 14), .none, (.mov (.t 4)), 0, []⟩, ⟨(some 15), .none, (.bin .lss (.t 14) (.c (.int .i64 5))), 1, []⟩]) (.cond (.t 15) .skip (.exit 0))) (.seq (.block 1 (.seq (.reg false [⟨(some 18), .none, (.mov (.t 0)), 0, []⟩, ⟨(some 19), .none, (.call 58 [(.t 18), (.c (.int .i64 4))]), 1, []⟩, ⟨(some 20), .none, (.un .not (.t 19)), 2, []⟩]) (.cond (.t 20) (.reg false [⟨(some 21), .none, (.fadr 2 (.t 3)), 0, []⟩, ⟨(some 22), .none, (.load 1 false (.t 21)), 1, []⟩, ⟨(some 23), .none, (.mov (.t 4)), 2, []⟩, ⟨(some 24), .none, (.mkV 1 1 [(.int .i64 0)] [(0, (.t 23))]), 3, []⟩, ⟨(some 25), .none, (.app 1 8 (.t 22) (.t 24)), 4, []⟩, ⟨(some 26), .none, (.fadr 2 (.t 3)), 5, []⟩, ⟨.none, .none, (.store 1 (.t 26) (.t 25)), 6, []⟩]) .skip))) (.reg false [⟨(some 16), .none, (.mov (.t 4)), 0, []⟩, ⟨(some 17), .none, (.bin .add (.t 16) (.c (.int .i64 1))), 1, []⟩, ⟨(some 4), .none, (.mov (.t 17)), 2, []⟩])))))) (.seq (.reg false [⟨(some 27), .none, (.load 5 true (.t 3)), 0, []⟩, ⟨.none, .none, (.store 5 (.t 2) (.t 27)), 1, []⟩]) .ret)))), [(.cell 2 5 true)]⟩
theorem k70 : EE.fns 70 = some c70 := by kernel_rfl
def c71 : CF := ⟨40, (.seq (.reg false [⟨(some 2), .none, (.boxV (.t 0)), 0, []⟩, ⟨(some 3), .none, (.boxV (.t 1)), 1, []⟩, ⟨(some 4), .none, (.mov (.c (.bool false))), 2, []⟩]) (.seq (.seq (.reg false [⟨(some 5), .none, (.fadr 0 (.t 2)), 0, []⟩, ⟨(some 6), .none, (.load 1 false (.t 5)), 1, []⟩]) (.block 0 (.seq (.reg false [⟨(some 8), .none, (.bin .eql (.t 6) (.c (.int .i64 1))), 0, []⟩, ⟨(some 7), .none, (.mov (.t 8)), 1, []⟩]) (.cond (.t 7) (.seq (.reg false [⟨(some 9), .none, (.fadr 1 (.t 2)), 0, []⟩, ⟨(some 10), .none, (.load 1 false (.t 9)), 1, []⟩, ⟨(some 11), .none, (.fadr 0 (.t 3)), 2, []⟩, ⟨(some 12), .none, (.load 1 false (.t 11)), 3, []⟩, ⟨(some 13), .none, (.call 87 [(.t 10), (.t 12)]), 4, []⟩, ⟨(some 4), .none, (.mov (.t 13)), 5, []⟩]) .ret) (.seq (.reg false [⟨(some 15), .none, (.bin .eql (.t 6) (.c (.int .i64 2))), 0, []⟩, ⟨(some 14), .none, (.mov (.t 15)), 1, []⟩]) (.cond (.t 14) (.seq (.reg false [⟨(some 16), .none, (.fadr 1 (.t 2)), 0, []⟩, ⟨(some 17), .none, (.load 1 false (.t 16)), 1, []⟩, ⟨(some 18), .none, (.fadr 1 (.t 3)), 2, []⟩, ⟨(some 19), .none, (.load 1 false (.t 18)), 3, []⟩, ⟨(some 20), .none, (.call 87 [(.t 17), (.t 19)]), 4, []⟩, ⟨(some 4), .none, (.mov (.t 20)), 5, []⟩]) .ret) (.seq (.reg false [⟨(some 22), .none, (.bin .eql (.t 6) (.c (.int .i64 3))), 0, []⟩, ⟨(some 21), .none, (.mov (.t 22)), 1, []⟩]) (.cond (.t 21) (.seq (.reg false [⟨(some 23), .none, (.fadr 1 (.t 2)), 0, []⟩, ⟨(some 24), .none, (.load 1 false (.t 23)), 1, []⟩, ⟨(some 25), .none, (.fadr 2 (.t 3)), 2, []⟩, ⟨(some 26), .none, (.load 1 false (.t 25)), 3, []⟩, ⟨(some 27), .none, (.call 67 [(.t 24), (.t 26)]), 4, []⟩, ⟨(some 4), .none, (.mov (.t 27)), 5, []⟩]) .ret) (.seq (.reg false [⟨(some 29), .none, (.bin .eql (.t 6) (.c (.int .i64 4))), 0, []⟩, ⟨(some 28), .none, (.mov (.t 29)), 1, []⟩]) (.cond (.t 28) (.seq (.reg false [⟨(some 30), .none, (.fadr 3 (.t 3)), 0, []⟩, ⟨(some 31), .none, (.load 1 false (.t 30)), 1, []⟩, ⟨(some 32), .none, (.fadr 2 (.t 2)), 2, []⟩, ⟨(some 33), .none, (.load 1 false (.t 32)), 3, []⟩, ⟨(some 34), .none, (.bin .leq (.t 31) (.t 33)), 4, []⟩, ⟨(some 4), .none, (.mov (.t 34)), 5, []⟩]) .ret) .skip)))))))))) (.seq (.reg false [⟨(some 35), .none, (.fadr 4 (.t 3)), 0, []⟩, ⟨(some 36), .none, (.load 1 false (.t 35)), 1, []⟩, ⟨(some 37), .none, (.fadr 2 (.t 2)), 2, []⟩, ⟨(some 38), .none, (.load 1 false (.t 37)), 3, []⟩, ⟨(some 39), .none, (.bin .lss (.t 36) (.t 38)), 4, []⟩, ⟨(some 4), .none, (.mov (.t 39)), 5, []⟩]) .ret))), [(.t 4)]⟩
theorem k71 : EE.fns 71 = some c71 := by kernel_rfl
def c72 : CF := ⟨8, (.seq (.reg false [⟨(some 2), .none, (.boxV (.t 0)), 0, []⟩, ⟨(some 3), .none, (.mov (.c (.bool false))), 1, []⟩]) (.seq (.reg false [⟨(some 4), .none, (.load 3 true (.t 2)), 0, []⟩, ⟨(some 5), .none, (.load 5 true (.t 1)), 1, []⟩, ⟨(some 6), .none, (.call 73 [(.t 4), (.t 5)]), 2, []⟩, ⟨(some 7), .none, (.un .not (.t 6)), 3, []⟩, ⟨(some 3), .none, (.mov (.t 7)), 4, []⟩]) .ret)), [(.t 3)]⟩
theorem k72 : EE.fns 72 = some c72 := by kernel_rfl
def c73 : CF := ⟨40, (.seq (.reg false [⟨(some 2), .none, (.boxV (.t 0)), 0, []⟩, ⟨(some 3), .none, (.boxO (.t 1)), 1, []⟩, ⟨(some 4), .none, (.mov (.c (.bool false))), 2, []⟩]) (.seq (.seq (.reg false [⟨(some 5), .none, (.fadr 0 (.t 2)), 0, []⟩, ⟨(some 6), .none, (.load 1 false (.t 5)), 1, []⟩]) (.block 0 (.seq (.reg false [⟨(some 8), .none, (.bin .eql (.t 6) (.c (.int .i64 1))), 0, []⟩, ⟨(some 7), .none, (.mov (.t 8)), 1, []⟩]) (.cond (.t 7) (.seq (.reg false [⟨(some 9), .none, (.fadr 1 (.t 2)), 0, []⟩, ⟨(some 10), .none, (.load 1 false (.t 9)), 1, []⟩, ⟨(some 11), .none, (.fadr 0 (.t 3)), 2, []⟩, ⟨(some 12), .none, (.load 1 false (.t 11)), 3, []⟩, ⟨(some 13), .none, (.call 85 [(.t 10), (.t 12)]), 4, []⟩, ⟨(some 4), .none, (.mov (.t 13)), 5, []⟩]) .ret) (.seq (.reg false [⟨(some 15), .none, (.bin .eql (.t 6) (.c (.int .i64 2))), 0, []⟩, ⟨(some 14), .none, (.mov (.t 15)), 1, []⟩]) (.cond (.t 14) (.seq (.reg false [⟨(some 16), .none, (.fadr 1 (.t 2)), 0, []⟩, ⟨(some 17), .none, (.load 1 false (.t 16)), 1, []⟩, ⟨(some 18), .none, (.fadr 1 (.t 3)), 2, []⟩, ⟨(some 19), .none, (.load 1 false (.t 18)), 3, []⟩, ⟨(some 20), .none, (.call 85 [(.t 17), (.t 19)]), 4, []⟩, ⟨(some 4), .none, (.mov (.t 20)), 5, []⟩]) .ret) (.seq (.reg false [⟨(some 22), .none, (.bin .eql (.t 6) (.c (.int .i64 3))), 0, []⟩, ⟨(some 21), .none, (.mov (.t 22)), 1, []⟩]) (.cond (.t 21) (.seq (.reg false [⟨(some 23), .none, (.fadr 1 (.t 2)), 0, []⟩, ⟨(some 24), .none, (.load 1 false (.t 23)), 1, []⟩, ⟨(some 25), .none, (.fn 89 [(.t 3)]), 2, []⟩, ⟨(some 26), .none, (.call 83 [(.t 24), (.t 25)]), 3, []⟩, ⟨(some 27), .none, (.un .not (.t 26)), 4, []⟩, ⟨(some 4), .none, (.mov (.t 27)), 5, []⟩]) .ret) (.seq (.reg false [⟨(some 29), .none, (.bin .eql (.t 6) (.c (.int .i64 4))), 0, []⟩, ⟨(some 28), .none, (.mov (.t 29)), 1, []⟩]) (.cond (.t 28) (.seq (.reg false [⟨(some 30), .none, (.fadr 3 (.t 3)), 0, []⟩, ⟨(some 31), .none, (.load 1 false (.t 30)), 1, []⟩, ⟨(some 32), .none, (.fadr 2 (.t 2)), 2, []⟩, ⟨(some 33), .none, (.load 1 false (.t 32)), 3, []⟩, ⟨(some 34), .none, (.bin .leq (.t 31) (.t 33)), 4, []⟩, ⟨(some 4), .none, (.mov (.t 34)), 5, []⟩]) .ret) .skip)))))))))) (.seq (.reg false [⟨(some 35), .none, (.fadr 4 (.t 3)), 0, []⟩, ⟨(some 36), .none, (.load 1 false (.t 35)), 1, []⟩, ⟨(some 37), .none, (.fadr 2 (.t 2)), 2, []⟩, ⟨(some 38), .none, (.load 1 false (.t 37)), 3, []⟩, ⟨(some 39), .none, (.bin .lss (.t 36) (.t 38)), 4, []⟩, ⟨(some 4), .none, (.mov (.t 39)), 5, []⟩]) .ret))), [(.t 4)]⟩
theorem k73 : EE.fns 73 = some c73 := by kernel_rfl
def c78 : CF := ⟨6, (.seq (.reg false [⟨(some 1), .none, (.boxV (.t 0)), 0, []⟩, ⟨(some 2), .none, (.mov (.c (.bool false))), 1, []⟩]) (.seq (.reg false [⟨(some 3), .none, (.load 3 true (.t 1)), 0, []⟩, ⟨(some 4), .none, (.call 79 [(.t 3)]), 1, []⟩, ⟨(some 5), .none, (.un .not (.t 4)), 2, []⟩, ⟨(some 2), .none, (.mov (.t 5)), 3, []⟩]) .ret)), [(.t 2)]⟩
theorem k78 : EE.fns 78 = some c78 := by kernel_rfl
def c79 : CF := ⟨29, (.seq (.reg false [⟨(some 1), .none, (.boxV (.t 0)), 0, []⟩, ⟨(some 2), .none, (.mov (.c (.bool false))), 1, []⟩]) (.seq (.seq (.reg false [⟨(some 3), .none, (.fadr 0 (.t 1)), 0, []⟩, ⟨(some 4), .none, (.load 1 false (.t 3)), 1, []⟩]) (.block 0 (.seq (.seq (.reg false [⟨(some 6), .none, (.bin .eql (.t 4) (.c (.int .i64 1))), 0, []⟩, ⟨(some 5), .none, (.mov (.t 6)), 1, []⟩]) (.cond (.t 5) .skip (.seq (.reg false [⟨(some 7), .none, (.bin .eql (.t 4) (.c (.int .i64 2))), 0, []⟩, ⟨(some 5), .none, (.mov (.t 7)), 1, []⟩]) (.cond (.t 5) .skip (.reg false [⟨(some 8), .none, (.bin .eql (.t 4) (.c (.int .i64 3))), 0, []⟩, ⟨(some 5), .none, (.mov (.t 8)), 1, []⟩]))))) (.cond (.t 5) (.seq (.reg false [⟨(some 9), .none, (.fadr 1 (.t 1)), 0, []⟩, ⟨(some 10), .none, (.load 1 false (.t 9)), 1, []⟩, ⟨(some 11), .none, (.call 90 [(.t 10)]), 2, []⟩, ⟨(some 12), .none, (.mov (.t 11)), 3, []⟩, ⟨(some 13), (.some (12, true)), (.fadr 2 (.t 1)), 4, []⟩, ⟨(some 14), (.some (12, true)), (.load 1 false (.t 13)), 5, []⟩, ⟨(some 15), (.some (12, true)), (.bin .eql (.t 14) (.c (.int .i64 0))), 6, []⟩, ⟨(some 16), .none, (.pick (.t 12) (.t 15) (.c (.bool false))), 7, []⟩, ⟨(some 2), .none, (.mov (.t 16)), 8, []⟩]) .ret) (.seq (.seq (.reg false [⟨(some 18), .none, (.bin .eql (.t 4) (.c (.int .i64 4))), 0, []⟩, ⟨(some 17), .none, (.mov (.t 18)), 1, []⟩]) (.cond (.t 17) .skip (.reg false [⟨(some 19), .none, (.bin .eql (.t 4) (.c (.int .i64 5))), 0, []⟩, ⟨(some 17), .none, (.mov (.t 19)), 1, []⟩]))) (.cond (.t 17) (.seq (.reg false [⟨(some 20), .none, (.fadr 2 (.t 1)), 0, []⟩, ⟨(some 21), .none, (.load 1 false (.t 20)), 1, []⟩, ⟨(some 22), .none, (.call 91 [(.t 21)]), 2, []⟩, ⟨(some 23), .none, (.mov (.t 22)), 3, []⟩, ⟨(some 24), (.some (23, true)), (.fadr 1 (.t 1)), 4, []⟩, ⟨(some 25), (.some (23, true)), (.load 1 false (.t 24)), 5, []⟩, ⟨(some 26), (.some (23, true)), (.lenS (.t 25)), 6, []⟩, ⟨(some 27), (.some (23, true)), (.bin .eql (.t 26) (.c (.int .i64 0))), 7, []⟩, ⟨(some 28), .none, (.pick (.t 23) (.t 27) (.c (.bool false))), 8, []⟩, ⟨(some 2), .none, (.mov (.t 28)), 9, []⟩]) .ret) .skip)))))) (.seq (.reg false [⟨(some 2), .none, (.mov (.c (.bool false))), 0, []⟩]) .ret))), [(.t 2)]⟩
theorem k79 : EE.fns 79 = some c79 := by kernel_rfl
def c80 : CF := ⟨44, (.seq (.reg false [⟨(some 2), .none, (.boxV (.t 0)), 0, []⟩, ⟨(some 3), .none, (.boxV (.t 1)), 1, []⟩, ⟨(some 4), .none, (.newV [(.int .i64 0), (.slice .none 0 0), (.int .i64 0)]), 2, []⟩]) (.seq (.reg false [⟨(some 8), .none, (.fadr 2 (.t 2)), 0, []⟩, ⟨(some 9), .none, (.load 1 false (.t 8)), 1, []⟩, ⟨(some 10), .none, (.fadr 2 (.t 3)), 2, []⟩, ⟨(some 11), .none, (.load 1 false (.t 10)), 3, []⟩, ⟨(some 12), .none, (.mn (.t 9) (.t 11)), 4, []⟩, ⟨(some 13), .none, (.fadr 2 (.t 2)), 5, []⟩, ⟨.none, .none, (.store 1 (.t 13) (.t 12)), 6, []⟩]) (.seq (.reg false [⟨(some 14), .none, (.mkO 0 1 [(.int .i64 0)] []), 0, []⟩, ⟨(some 5), .none, (.mov (.t 14)), 1, []⟩]) (.seq (.seq (.reg false [⟨(some 15), .none, (.fadr 0 (.t 2)), 0, []⟩, ⟨(some 16), .none, (.load 1 false (.t 15)), 1, []⟩, ⟨(some 17), .none, (.bin .eql (.t 16) (.c (.int .i64 3))), 2, []⟩]) (.cond (.t 17) (.reg true [⟨(some 18), .none, (.fadr 1 (.t 2)), 0, []⟩, ⟨(some 19), .none, (.load 1 false (.t 18)), 1, [0]⟩, ⟨(some 20), .none, (.call 81 [(.t 19)]), 2, [1, 0]⟩, ⟨(some 21), .none, (.fadr 1 (.t 3)), 3, []⟩, ⟨(some 22), .none, (.load 1 false (.t 21)), 4, [3]⟩, ⟨(some 23), .none, (.app 1 8 (.t 20) (.t 22)), 5, [2, 1, 0, 4, 3]⟩, ⟨(some 24), .none, (.call 92 [(.t 23)]), 6, [5, 2, 1, 0, 4, 3]⟩, ⟨(some 5), .none, (.mov (.t 24)), 7, [6, 5, 2, 1, 0, 4, 3]⟩]) (.seq (.reg false [⟨(some 25), .none, (.fadr 1 (.t 2)), 0, []⟩, ⟨(some 26), .none, (.load 1 false (.t 25)), 1, []⟩, ⟨(some 27), .none, (.lenS (.t 26)), 2, []⟩, ⟨(some 28), .none, (.mov (.c (.int .i64 0))), 3, []⟩]) (.block 0 (.loop (.seq (.reg false [⟨(some 29), .none, (.bin .lss (.t 28) (.t 27)), 0, []⟩]) (.seq (.cond (.t 29) .skip (.exit 0)) (.seq (.block 1 (.seq (.reg false [⟨(some 30), .none, (.iadr 1 (.t 26) (.t 28)), 0, []⟩, ⟨(some 31), .none, (.load 1 false (.t 30)), 1, []⟩, ⟨(some 7), .none, (.mov (.t 31)), 2, []⟩]) (.seq (.reg false [⟨(some 32), .none, (.fadr 1 (.t 3)), 0, []⟩, ⟨(some 33), .none, (.load 1 false (.t 32)), 1, []⟩, ⟨(some 34), .none, (.mov (.t 7)), 2, []⟩, ⟨(some 35), .none, (.call 85 [(.t 33), (.t 34)]), 3, []⟩]) (.cond (.t 35) (.reg false [⟨(some 36), .none, (.mov (.t 5)), 0, []⟩, ⟨(some 37), .none, (.mov (.t 7)), 1, []⟩, ⟨(some 38), .none, (.mkV 1 1 [(.int .i64 0)] [(0, (.t 37))]), 2, []⟩, ⟨(some 39), .none, (.app 1 8 (.t 36) (.t 38)), 3, []⟩, ⟨(some 5), .none, (.mov (.t 39)), 4, []⟩]) .skip)))) (.reg false [⟨(some 40), .none, (.bin .add (.t 28) (.c (.int .i64 1))), 0, []⟩, ⟨(some 28), .none, (.mov (.t 40)), 1, []⟩]))))))))) (.seq (.reg false [⟨(some 41), .none, (.mov (.t 5)), 0, []⟩, ⟨(some 42), .none, (.fadr 1 (.t 2)), 1, []⟩, ⟨.none, .none, (.store 1 (.t 42) (.t 41)), 2, []⟩]) (.seq (.reg false [⟨(some 43), .none, (.load 3 true (.t 2)), 0, []⟩, ⟨.none, .none, (.store 3 (.t 4) (.t 43)), 1, []⟩]) .ret)))))), [(.cell 4 3 true)]⟩
theorem k80 : EE.fns 80 = some c80 := by kernel_rfl
def c81 : CF := ⟨5, (.seq (.reg false [⟨(some 2), .none, (.mov (.c (.slice .none 0 0))), 0, []⟩]) (.seq (.reg false [⟨(some 3), .none, (.mov (.t 0)), 0, []⟩, ⟨(some 4), .none, (.app 1 8 (.c (.slice .none 0 0)) (.t 3)), 1, []⟩, ⟨(some 2), .none, (.mov (.t 4)), 2, []⟩]) .ret)), [(.t 2)]⟩
theorem k81 : EE.fns 81 = some c81 := by kernel_rfl
def c83 : CF := ⟨9, (.seq (.reg false [⟨(some 4), .none, (.mov (.c (.bool false))), 0, []⟩]) (.seq (.reg false [⟨(some 5), .none, (.mov (.t 0)), 0, []⟩, ⟨(some 6), .none, (.mov (.t 1)), 1, []⟩, ⟨(some 7), .none, (.call 93 [(.t 5), (.t 6)]), 2, []⟩, ⟨(some 8), .none, (.bin .geq (.t 7) (.c (.int .i64 0))), 3, []⟩, ⟨(some 4), .none, (.mov (.t 8)), 4, []⟩]) .ret)), [(.t 4)]⟩
theorem k83 : EE.fns 83 = some c83 := by kernel_rfl
def c84 : CF := ⟨8, (.seq (.reg false [⟨(some 3), .none, (.mov (.c (.bool false))), 0, []⟩]) (.seq (.reg false [⟨(some 4), .none, (.load 1 false (.t 1)), 0, []⟩, ⟨(some 5), .none, (.mov (.t 0)), 1, []⟩, ⟨(some 6), .none, (.call 85 [(.t 4), (.t 5)]), 2, []⟩, ⟨(some 7), .none, (.un .not (.t 6)), 3, []⟩, ⟨(some 3), .none, (.mov (.t 7)), 4, []⟩]) .ret)), [(.t 3)]⟩
theorem k84 : EE.fns 84 = some c84 := by kernel_rfl
def c85 : CF := ⟨9, (.seq (.reg false [⟨(some 4), .none, (.mov (.c (.bool false))), 0, []⟩]) (.seq (.reg false [⟨(some 5), .none, (.mov (.t 0)), 0, []⟩, ⟨(some 6), .none, (.mov (.t 1)), 1, []⟩, ⟨(some 7), .none, (.call 94 [(.t 5), (.t 6)]), 2, []⟩, ⟨(some 8), .none, (.bin .geq (.t 7) (.c (.int .i64 0))), 3, []⟩, ⟨(some 4), .none, (.mov (.t 8)), 4, []⟩]) .ret)), [(.t 4)]⟩
theorem k85 : EE.fns 85 = some c85 := by kernel_rfl
def c86 : CF := ⟨56, (.seq (.reg false [⟨(some 2), .none, (.boxV (.t 0)), 0, []⟩, ⟨(some 3), .none, (.boxV (.t 1)), 1, []⟩, ⟨(some 4), .none, (.newV [(.int .i64 0), (.slice .none 0 0), (.int .i64 0)]), 2, []⟩]) (.seq (.reg false [⟨(some 9), .none, (.fadr 0 (.t 2)), 0, []⟩, ⟨(some 10), .none, (.load 1 false (.t 9)), 1, []⟩, ⟨(some 11), .none, (.build [(.int .i64 0), (.slice .none 0 0), (.int .i64 0)] [(0, (1, (.t 10)))]), 2, []⟩, ⟨(some 5), .none, (.newV [(.int .i64 0), (.slice .none 0 0), (.int .i64 0)]), 3, []⟩, ⟨.none, .none, (.store 3 (.t 5) (.t 11)), 4, []⟩]) (.seq (.seq (.reg false [⟨(some 12), .none, (.fadr 0 (.t 2)), 0, []⟩, ⟨(some 13), .none, (.load 1 false (.t 12)), 1, []⟩, ⟨(some 14), .none, (.bin .geq (.t 13) (.c (.int .i64 4))), 2, []⟩]) (.cond (.t 14) (.seq (.reg false [⟨(some 15), .none, (.fadr 2 (.t 2)), 0, []⟩, ⟨(some 16), .none, (.load 1 false (.t 15)), 1, []⟩, ⟨(some 17), .none, (.fadr 2 (.t 3)), 2, []⟩, ⟨(some 18), .none, (.load 1 false (.t 17)), 3, []⟩, ⟨(some 19), .none, (.call 95 [(.t 16), (.t 18)]), 4, []⟩, ⟨(some 20), .none, (.fadr 2 (.t 5)), 5, []⟩, ⟨.none, .none, (.store 1 (.t 20) (.t 19)), 6, []⟩]) (.seq (.reg false [⟨(some 21), .none, (.load 3 true (.t 5)), 0, []⟩, ⟨.none, .none, (.store 3 (.t 4) (.t 21)), 1, []⟩]) .ret)) .skip)) (.seq (.seq (.reg false [⟨(some 6), .none, (.mov (.c (.int .i64 0))), 0, []⟩]) (.block 0 (.loop (.seq (.seq (.reg false [⟨(some 22), .none, (.mov (.t 6)), 0, []⟩, ⟨(some 23), .none, (.bin .leq (.t 22) (.c (.int .i64 30))), 1, []⟩]) (.cond (.t 23) .skip (.exit 0))) (.seq (.block 1 (.seq (.reg false [⟨(some 26), .none, (.fadr 1 (.t 2)), 0, []⟩, ⟨(some 27), .none, (.load 1 false (.t 26)), 1, []⟩, ⟨(some 28), .none, (.mov (.t 6)), 2, []⟩, ⟨(some 29), .none, (.call 87 [(.t 27), (.t 28)]), 3, []⟩, ⟨(some 7), .none, (.mov (.t 29)), 4, []⟩]) (.seq (.reg false [⟨(some 30), .none, (.fadr 1 (.t 3)), 0, []⟩, ⟨(some 31), .none, (.load 1 false (.t 30)), 1, []⟩, ⟨(some 32), .none, (.mov (.t 6)), 2, []⟩, ⟨(some 33), .none, (.call 87 [(.t 31), (.t 32)]), 3, []⟩, ⟨(some 8), .none, (.mov (.t 33)), 4, []⟩]) (.seq (.reg false [⟨(some 34), .none, (.mov (.t 7)), 0, []⟩, ⟨(some 35), .none, (.mov (.t 34)), 1, []⟩, ⟨(some 36), (.some (35, true)), (.mov (.t 8)), 2, []⟩, ⟨(some 37), .none, (.pick (.t 35) (.t 36) (.c (.bool false))), 3, []⟩, ⟨(some 38), .none, (.mov (.t 37)), 4, []⟩, ⟨(some 39), (.some (38, false)), (.fadr 0 (.t 2)), 5, []⟩, ⟨(some 40), (.some (38, false)), (.load 1 false (.t 39)), 6, []⟩, ⟨(some 41), (.some (38, false)), (.bin .eql (.t 40) (.c (.int .i64 3))), 7, []⟩, ⟨(some 42), (.some (38, false)), (.mov (.t 41)), 8, []⟩, ⟨(some 43), (.some (42, true)), (.mov (.t 7)), 9, []⟩, ⟨(some 44), (.some (42, true)), (.mov (.t 43)), 10, []⟩, ⟨(some 45), (.some (44, false)), (.mov (.t 8)), 11, []⟩, ⟨(some 46), (.some (42, true)), (.pick (.t 44) (.c (.bool true)) (.t 45)), 12, []⟩, ⟨(some 47), (.some (38, false)), (.pick (.t 42) (.t 46) (.c (.bool false))), 13, []⟩, ⟨(some 48), .none, (.pick (.t 38) (.c (.bool true)) (.t 47)), 14, []⟩]) (.cond (.t 48) (.reg false [⟨(some 49), .none, (.fadr 1 (.t 5)), 0, []⟩, ⟨(some 50), .none, (.load 1 false (.t 49)), 1, []⟩, ⟨(some 51), .none, (.mov (.t 6)), 2, []⟩, ⟨(some 52), .none, (.mkV 1 1 [(.int .i64 0)] [(0, (.t 51))]), 3, []⟩, ⟨(some 53), .none, (.app 1 8 (.t 50) (.t 52)), 4, []⟩, ⟨(some 54), .none, (.fadr 1 (.t 5)), 5, []⟩, ⟨.none, .none, (.store 1 (.t 54) (.t 53)), 6, []⟩]) .skip))))) (.reg false [⟨(some 24), .none, (.mov (.t 6)), 0, []⟩, ⟨(some 25), .none, (.bin .add (.t 24) (.c (.int .i64 1))), 1, []⟩, ⟨(some 6), .none, (.mov (.t 25)), 2, []⟩])))))) (.seq (.reg false [⟨(some 55), .none, (.load 3 true (.t 5)), 0, []⟩, ⟨.none, .none, (.store 3 (.t 4) (.t 55)), 1, []⟩]) .ret))))), [(.cell 4 3 true)]⟩
theorem k86 : EE.fns 86 = some c86 := by kernel_rfl
def c87 : CF := ⟨18, (.seq (.reg false [⟨(some 4), .none, (.mov (.c (.bool false))), 0, []⟩]) (.seq (.seq (.reg false [⟨(some 5), .none, (.mov (.c (.int .i64 0))), 0, []⟩]) (.block 0 (.loop (.seq (.seq (.reg false [⟨(some 6), .none, (.mov (.t 5)), 0, []⟩, ⟨(some 7), .none, (.mov (.t 0)), 1, []⟩, ⟨(some 8), .none, (.lenS (.t 7)), 2, []⟩, ⟨(some 9), .none, (.bin .lss (.t 6) (.t 8)), 3, []⟩]) (.cond (.t 9) .skip (.exit 0))) (.seq (.block 1 (.seq (.reg false [⟨(some 12), .none, (.mov (.t 0)), 0, []⟩, ⟨(some 13), .none, (.mov (.t 5)), 1, []⟩, ⟨(some 14), .none, (.iadr 1 (.t 12) (.t 13)), 2, []⟩, ⟨(some 15), .none, (.load 1 false (.t 14)), 3, []⟩, ⟨(some 16), .none, (.mov (.t 1)), 4, []⟩, ⟨(some 17), .none, (.bin .eql (.t 15) (.t 16)), 5, []⟩]) (.cond (.t 17) (.seq (.reg false [⟨(some 4), .none, (.mov (.c (.bool true))), 0, []⟩]) .ret) .skip))) (.reg false [⟨(some 10), .none, (.mov (.t 5)), 0, []⟩, ⟨(some 11), .none, (.bin .add (.t 10) (.c (.int .i64 1))), 1, []⟩, ⟨(some 5), .none, (.mov (.t 11)), 2, []⟩])))))) (.seq (.reg false [⟨(some 4), .none, (.mov (.c (.bool false))), 0, []⟩]) .ret))), [(.t 4)]⟩
theorem k87 : EE.fns 87 = some c87 := by kernel_rfl
def c88 : CF := ⟨32, (.seq (.reg false [⟨(some 2), .none, (.mov (.c (.bool false))), 0, []⟩]) (.seq (.seq (.reg false [⟨(some 3), .none, (.mov (.c (.int .i64 0))), 0, []⟩]) (.block 0 (.loop (.seq (.seq (.reg false [⟨(some 4), .none, (.mov (.t 3)), 0, []⟩, ⟨(some 5), .none, (.mov (.t 0)), 1, []⟩, ⟨(some 6), .none, (.lenS (.t 5)), 2, []⟩, ⟨(some 7), .none, (.bin .lss (.t 4) (.t 6)), 3, []⟩]) (.cond (.t 7) .skip (.exit 0))) (.seq (.block 1 (.seq (.reg true [⟨(some 10), .none, (.mov (.t 0)), 0, []⟩, ⟨(some 11), .none, (.mov (.t 3)), 1, []⟩, ⟨(some 12), .none, (.iadr 1 (.t 10) (.t 11)), 2, [0, 1]⟩, ⟨(some 13), .none, (.load 1 false (.t 12)), 3, [2, 0, 1]⟩, ⟨(some 14), .none, (.call 45 [(.t 13), (.c (.int .i64 0)), (.c (.int .i64 30))]), 4, [3, 2, 0, 1]⟩, ⟨(some 15), .none, (.un .not (.t 14)), 5, [4, 3, 2, 0, 1]⟩, ⟨(some 16), .none, (.mov (.t 15)), 6, [5, 4, 3, 2, 0, 1]⟩, ⟨(some 17), (.some (16, false)), (.mov (.t 3)), 7, [6, 5, 4, 3, 2, 0, 1]⟩, ⟨(some 18), (.some (16, false)), (.bin .gtr (.t 17) (.c (.int .i64 0))), 8, [7, 6, 5, 4, 3, 2, 0, 1]⟩, ⟨(some 19), (.some (16, false)), (.mov (.t 18)), 9, [8, 7, 6, 5, 4, 3, 2, 0, 1]⟩, ⟨(some 20), (.some (19, true)), (.mov (.t 0)), 10, [9, 8, 7, 6, 5, 4, 3, 2, 0, 1]⟩, ⟨(some 21), (.some (19, true)), (.mov (.t 3)), 11, [9, 8, 7, 6, 5, 4, 3, 2, 0, 1]⟩, ⟨(some 22), (.some (19, true)), (.bin .sub (.t 21) (.c (.int .i64 1))), 12, [11, 9, 8, 7, 6, 5, 4, 3, 2, 0, 1]⟩, ⟨(some 23), (.some (19, true)), (.iadr 1 (.t 20) (.t 22)), 13, [10, 9, 8, 7, 6, 5, 4, 3, 2, 0, 1, 12, 11]⟩, ⟨(some 24), (.some (19, true)), (.load 1 false (.t 23)), 14, [13, 10, 9, 8, 7, 6, 5, 4, 3, 2, 0, 1, 12, 11]⟩, ⟨(some 25), (.some (19, true)), (.mov (.t 0)), 15, [9, 8, 7, 6, 5, 4, 3, 2, 0, 1]⟩, ⟨(some 26), (.some (19, true)), (.mov (.t 3)), 16, [9, 8, 7, 6, 5, 4, 3, 2, 0, 1]⟩, ⟨(some 27), (.some (19, true)), (.iadr 1 (.t 25) (.t 26)), 17, [15, 9, 8, 7, 6, 5, 4, 3, 2, 0, 1, 16]⟩, ⟨(some 28), (.some (19, true)), (.load 1 false (.t 27)), 18, [17, 15, 9, 8, 7, 6, 5, 4, 3, 2, 0, 1, 16]⟩, ⟨(some 29), (.some (19, true)), (.bin .geq (.t 24) (.t 28)), 19, [14, 13, 10, 9, 8, 7, 6, 5, 4, 3, 2, 0, 1, 12, 11, 18, 17, 15, 16]⟩, ⟨(some 30), (.some (16, false)), (.pick (.t 19) (.t 29) (.c (.bool false))), 20, [9, 8, 7, 6, 5, 4, 3, 2, 0, 1, 19, 14, 13, 10, 12, 11, 18, 17, 15, 16]⟩, ⟨(some 31), .none, (.pick (.t 16) (.c (.bool true)) (.t 30)), 21, [6, 5, 4, 3, 2, 0, 1, 20, 9, 8, 7, 19, 14, 13, 10, 12, 11, 18, 17, 15, 16]⟩]) (.cond (.t 31) (.seq (.reg false [⟨(some 2), .none, (.mov (.c (.bool false))), 0, []⟩]) .ret) .skip))) (.reg false [⟨(some 8), .none, (.mov (.t 3)), 0, []⟩, ⟨(some 9), .none, (.bin .add (.t 8) (.c (.int .i64 1))), 1, []⟩, ⟨(some 3), .none, (.mov (.t 9)), 2, []⟩])))))) (.seq (.reg false [⟨(some 2), .none, (.mov (.c (.bool true))), 0, []⟩]) .ret))), [(.t 2)]⟩
theorem k88 : EE.fns 88 = some c88 := by kernel_rfl
def c89 : CF := ⟨9, (.seq (.reg false [⟨(some 3), .none, (.mov (.c (.bool false))), 0, []⟩]) (.seq (.reg false [⟨(some 4), .none, (.fadr 2 (.t 1)), 0, []⟩, ⟨(some 5), .none, (.load 1 false (.t 4)), 1, []⟩, ⟨(some 6), .none, (.mov (.t 0)), 2, []⟩, ⟨(some 7), .none, (.call 85 [(.t 5), (.t 6)]), 3, []⟩, ⟨(some 8), .none, (.un .not (.t 7)), 4, []⟩, ⟨(some 3), .none, (.mov (.t 8)), 5, []⟩]) .ret)), [(.t 3)]⟩
theorem k89 : EE.fns 89 = some c89 := by kernel_rfl
def c90 : CF := ⟨9, (.seq (.reg false [⟨(some 2), .none, (.mov (.c (.bool false))), 0, []⟩]) (.seq (.reg false [⟨(some 3), .none, (.mov (.t 0)), 0, []⟩, ⟨(some 4), .none, (.call 96 [(.t 3)]), 1, []⟩, ⟨(some 5), .none, (.mov (.t 4)), 2, []⟩, ⟨(some 6), (.some (5, true)), (.mov (.t 0)), 3, []⟩, ⟨(some 7), (.some (5, true)), (.call 97 [(.t 6), (.c (.int .i64 31)), (.f 98)]), 4, []⟩, ⟨(some 8), .none, (.pick (.t 5) (.t 7) (.c (.bool false))), 5, []⟩, ⟨(some 2), .none, (.mov (.t 8)), 6, []⟩]) .ret)), [(.t 2)]⟩
theorem k90 : EE.fns 90 = some c90 := by kernel_rfl
def c91 : CF := ⟨5, (.seq (.reg false [⟨(some 2), .none, (.mov (.c (.bool false))), 0, []⟩]) (.seq (.reg false [⟨(some 3), .none, (.mov (.t 0)), 0, []⟩, ⟨(some 4), .none, (.call 48 [(.t 3), (.c (.int .i64 0)), (.c (.int .i64 100000))]), 1, []⟩, ⟨(some 2), .none, (.mov (.t 4)), 2, []⟩]) .ret)), [(.t 2)]⟩
theorem k91 : EE.fns 91 = some c91 := by kernel_rfl
def c92 : CF := ⟨7, (.seq (.reg false [⟨(some 2), .none, (.mov (.c (.slice .none 0 0))), 0, []⟩]) (.seq (.reg false [⟨(some 3), .none, (.mov (.t 0)), 0, []⟩, ⟨(some 4), .none, (.call 99 [(.t 3)]), 1, []⟩]) (.seq (.reg false [⟨(some 5), .none, (.mov (.t 0)), 0, []⟩, ⟨(some 6), .none, (.call 100 [(.t 5)]), 1, []⟩, ⟨(some 2), .none, (.mov (.t 6)), 2, []⟩]) .ret))), [(.t 2)]⟩
theorem k92 : EE.fns 92 = some c92 := by kernel_rfl
def c93 : CF := ⟨19, (.seq (.reg false [⟨(some 4), .none, (.mov (.c (.int .i64 0))), 0, []⟩]) (.seq (.seq (.reg false [⟨(some 6), .none, (.mov (.t 0)), 0, []⟩, ⟨(some 7), .none, (.lenS (.t 6)), 1, []⟩, ⟨(some 8), .none, (.mov (.c (.int .i64 0))), 2, []⟩]) (.block 0 (.loop (.seq (.reg false [⟨(some 9), .none, (.bin .lss (.t 8) (.t 7)), 0, []⟩]) (.seq (.cond (.t 9) .skip (.exit 0)) (.seq (.block 1 (.seq (.reg false [⟨(some 10), .none, (.mov (.t 8)), 0, []⟩, ⟨(some 5), .none, (.mov (.t 10)), 1, []⟩]) (.seq (.reg false [⟨(some 11), .none, (.mov (.t 1)), 0, []⟩, ⟨(some 12), .none, (.mov (.t 0)), 1, []⟩, ⟨(some 13), .none, (.mov (.t 5)), 2, []⟩, ⟨(some 14), .none, (.iadr 1 (.t 12) (.t 13)), 3, []⟩, ⟨(some 15), .none, (.load 1 false (.t 14)), 4, []⟩, ⟨(some 16), .none, (.callV (.t 11) [(.t 15)]), 5, []⟩]) (.cond (.t 16) (.seq (.reg false [⟨(some 17), .none, (.mov (.t 5)), 0, []⟩, ⟨(some 4), .none, (.mov (.t 17)), 1, []⟩]) .ret) .skip)))) (.reg false [⟨(some 18), .none, (.bin .add (.t 8) (.c (.int .i64 1))), 0, []⟩, ⟨(some 8), .none, (.mov (.t 18)), 1, []⟩]))))))) (.seq (.reg false [⟨(some 4), .none, (.mov (.c (.int .i64 (-1)))), 0, []⟩]) .ret))), [(.t 4)]⟩
theorem k93 : EE.fns 93 = some c93 := by kernel_rfl
def c94 : CF := ⟨19, (.seq (.reg false [⟨(some 4), .none, (.mov (.c (.int .i64 0))), 0, []⟩]) (.seq (.seq (.reg false [⟨(some 6), .none, (.mov (.t 0)), 0, []⟩, ⟨(some 7), .none, (.lenS (.t 6)), 1, []⟩, ⟨(some 8), .none, (.mov (.c (.int .i64 0))), 2, []⟩]) (.block 0 (.loop (.seq (.reg false [⟨(some 9), .none, (.bin .lss (.t 8) (.t 7)), 0, []⟩]) (.seq (.cond (.t 9) .skip (.exit 0)) (.seq (.block 1 (.seq (.reg false [⟨(some 10), .none, (.mov (.t 8)), 0, []⟩, ⟨(some 5), .none, (.mov (.t 10)), 1, []⟩]) (.seq (.reg false [⟨(some 11), .none, (.mov (.t 1)), 0, []⟩, ⟨(some 12), .none, (.mov (.t 0)), 1, []⟩, ⟨(some 13), .none, (.mov (.t 5)), 2, []⟩, ⟨(some 14), .none, (.iadr 1 (.t 12) (.t 13)), 3, []⟩, ⟨(some 15), .none, (.load 1 false (.t 14)), 4, []⟩, ⟨(some 16), .none, (.bin .eql (.t 11) (.t 15)), 5, []⟩]) (.cond (.t 16) (.seq (.reg false [⟨(some 17), .none, (.mov (.t 5)), 0, []⟩, ⟨(some 4), .none, (.mov (.t 17)), 1, []⟩]) .ret) .skip)))) (.reg false [⟨(some 18), .none, (.bin .add (.t 8) (.c (.int .i64 1))), 0, []⟩, ⟨(some 8), .none, (.mov (.t 18)), 1, []⟩]))))))) (.seq (.reg false [⟨(some 4), .none, (.mov (.c (.int .i64 (-1)))), 0, []⟩]) .ret))), [(.t 4)]⟩
theorem k94 : EE.fns 94 = some c94 := by kernel_rfl
def c95 : CF := ⟨10, (.seq (.reg false [⟨(some 4), .none, (.mov (.c (.int .i64 0))), 0, []⟩]) (.seq (.seq (.reg false [⟨(some 5), .none, (.mov (.t 0)), 0, []⟩, ⟨(some 6), .none, (.mov (.t 1)), 1, []⟩, ⟨(some 7), .none, (.bin .lss (.t 5) (.t 6)), 2, []⟩]) (.cond (.t 7) (.seq (.reg false [⟨(some 8), .none, (.mov (.t 0)), 0, []⟩, ⟨(some 4), .none, (.mov (.t 8)), 1, []⟩]) .ret) .skip)) (.seq (.reg false [⟨(some 9), .none, (.mov (.t 1)), 0, []⟩, ⟨(some 4), .none, (.mov (.t 9)), 1, []⟩]) .ret))), [(.t 4)]⟩
theorem k95 : EE.fns 95 = some c95 := by kernel_rfl
def c96 : CF := ⟨20, (.seq (.reg false [⟨(some 2), .none, (.mov (.c (.bool false))), 0, []⟩]) (.seq (.seq (.reg false [⟨(some 3), .none, (.mov (.c (.int .i64 1))), 0, []⟩]) (.block 0 (.loop (.seq (.seq (.reg false [⟨(some 4), .none, (.mov (.t 3)), 0, []⟩, ⟨(some 5), .none, (.mov (.t 0)), 1, []⟩, ⟨(some 6), .none, (.lenS (.t 5)), 2, []⟩, ⟨(some 7), .none, (.bin .lss (.t 4) (.t 6)), 3, []⟩]) (.cond (.t 7) .skip (.exit 0))) (.seq (.block 1 (.seq (.reg true [⟨(some 10), .none, (.mov (.t 0)), 0, []⟩, ⟨(some 11), .none, (.mov (.t 3)), 1, []⟩, ⟨(some 12), .none, (.bin .sub (.t 11) (.c (.int .i64 1))), 2, [1]⟩, ⟨(some 13), .none, (.iadr 1 (.t 10) (.t 12)), 3, [0, 2, 1]⟩, ⟨(some 14), .none, (.load 1 false (.t 13)), 4, [3, 0, 2, 1]⟩, ⟨(some 15), .none, (.mov (.t 0)), 5, []⟩, ⟨(some 16), .none, (.mov (.t 3)), 6, []⟩, ⟨(some 17), .none, (.iadr 1 (.t 15) (.t 16)), 7, [5, 6]⟩, ⟨(some 18), .none, (.load 1 false (.t 17)), 8, [7, 5, 6]⟩, ⟨(some 19), .none, (.bin .geq (.t 14) (.t 18)), 9, [4, 3, 0, 2, 1, 8, 7, 5, 6]⟩]) (.cond (.t 19) (.seq (.reg false [⟨(some 2), .none, (.mov (.c (.bool false))), 0, []⟩]) .ret) .skip))) (.reg false [⟨(some 8), .none, (.mov (.t 3)), 0, []⟩, ⟨(some 9), .none, (.bin .add (.t 8) (.c (.int .i64 1))), 1, []⟩, ⟨(some 3), .none, (.mov (.t 9)), 2, []⟩])))))) (.seq (.reg false [⟨(some 2), .none, (.mov (.c (.bool true))), 0, []⟩]) .ret))), [(.t 2)]⟩
theorem k96 : EE.fns 96 = some c96 := by kernel_rfl
def c97 : CF := ⟨24, (.seq (.reg false [⟨(some 6), .none, (.mov (.c (.bool false))), 0, []⟩]) (.seq (.seq (.reg false [⟨(some 9), .none, (.mov (.t 0)), 0, []⟩, ⟨(some 10), .none, (.lenS (.t 9)), 1, []⟩, ⟨(some 11), .none, (.mov (.c (.int .i64 0))), 2, []⟩]) (.block 0 (.loop (.seq (.reg false [⟨(some 12), .none, (.bin .lss (.t 11) (.t 10)), 0, []⟩]) (.seq (.cond (.t 12) .skip (.exit 0)) (.seq (.block 1 (.seq (.reg false [⟨(some 13), .none, (.iadr 1 (.t 9) (.t 11)), 0, []⟩, ⟨(some 14), .none, (.load 1 false (.t 13)), 1, []⟩, ⟨(some 8), .none, (.mov (.t 14)), 2, []⟩]) (.seq (.reg false [⟨(some 15), .none, (.mov (.t 2)), 0, []⟩, ⟨(some 16), .none, (.mov (.t 8)), 1, []⟩, ⟨(some 17), .none, (.callV (.t 15) [(.t 16)]), 2, []⟩, ⟨(some 18), .none, (.un .not (.t 17)), 3, []⟩]) (.cond (.t 18) (.seq (.reg false [⟨(some 6), .none, (.mov (.c (.bool false))), 0, []⟩]) .ret) .skip)))) (.reg false [⟨(some 19), .none, (.bin .add (.t 11) (.c (.int .i64 1))), 0, []⟩, ⟨(some 11), .none, (.mov (.t 19)), 1, []⟩]))))))) (.seq (.reg false [⟨(some 20), .none, (.mov (.t 0)), 0, []⟩, ⟨(some 21), .none, (.lenS (.t 20)), 1, []⟩, ⟨(some 22), .none, (.mov (.t 1)), 2, []⟩, ⟨(some 23), .none, (.bin .leq (.t 21) (.t 22)), 3, []⟩, ⟨(some 6), .none, (.mov (.t 23)), 4, []⟩]) .ret))), [(.t 6)]⟩
theorem k97 : EE.fns 97 = some c97 := by kernel_rfl
def c98 : CF := ⟨5, (.seq (.reg false [⟨(some 2), .none, (.mov (.c (.bool false))), 0, []⟩]) (.seq (.reg false [⟨(some 3), .none, (.mov (.t 0)), 0, []⟩, ⟨(some 4), .none, (.call 48 [(.t 3), (.c (.int .i64 0)), (.c (.int .i64 30))]), 1, []⟩, ⟨(some 2), .none, (.mov (.t 4)), 2, []⟩]) .ret)), [(.t 2)]⟩
theorem k98 : EE.fns 98 = some c98 := by kernel_rfl
def c100 : CF := ⟨61, (.seq (.reg false [⟨(some 2), .none, (.mov (.c (.slice .none 0 0))), 0, []⟩]) (.seq (.seq (.reg false [⟨(some 6), .none, (.mov (.t 0)), 0, []⟩, ⟨(some 7), .none, (.lenS (.t 6)), 1, []⟩, ⟨(some 8), .none, (.bin .lss (.t 7) (.c (.int .i64 2))), 2, []⟩]) (.cond (.t 8) (.seq (.reg false [⟨(some 9), .none, (.mov (.t 0)), 0, []⟩, ⟨(some 2), .none, (.mov (.t 9)), 1, []⟩]) .ret) .skip)) (.seq (.seq (.reg false [⟨(some 3), .none, (.mov (.c (.int .i64 1))), 0, []⟩]) (.block 0 (.loop (.seq (.seq (.reg false [⟨(some 10), .none, (.mov (.t 3)), 0, []⟩, ⟨(some 11), .none, (.mov (.t 0)), 1, []⟩, ⟨(some 12), .none, (.lenS (.t 11)), 2, []⟩, ⟨(some 13), .none, (.bin .lss (.t 10) (.t 12)), 3, []⟩]) (.cond (.t 13) .skip (.exit 0))) (.seq (.block 1 (.seq (.reg true [⟨(some 16), .none, (.mov (.t 0)), 0, []⟩, ⟨(some 17), .none, (.mov (.t 3)), 1, []⟩, ⟨(some 18), .none, (.iadr 1 (.t 16) (.t 17)), 2, [0, 1]⟩, ⟨(some 19), .none, (.load 1 false (.t 18)), 3, [2, 0, 1]⟩, ⟨(some 20), .none, (.mov (.t 0)), 4, []⟩, ⟨(some 21), .none, (.mov (.t 3)), 5, []⟩, ⟨(some 22), .none, (.bin .sub (.t 21) (.c (.int .i64 1))), 6, [5]⟩, ⟨(some 23), .none, (.iadr 1 (.t 20) (.t 22)), 7, [4, 6, 5]⟩, ⟨(some 24), .none, (.load 1 false (.t 23)), 8, [7, 4, 6, 5]⟩, ⟨(some 25), .none, (.bin .eql (.t 19) (.t 24)), 9, [3, 2, 0, 1, 8, 7, 4, 6, 5]⟩]) (.cond (.t 25) (.seq (.reg false [⟨(some 26), .none, (.mov (.t 0)), 0, []⟩, ⟨(some 27), .none, (.mov (.t 3)), 1, []⟩, ⟨(some 28), .none, (.slc 1 (.t 26) (.some (.t 27)) .none), 2, []⟩, ⟨(some 4), .none, (.mov (.t 28)), 3, []⟩]) (.seq (.seq (.reg false [⟨(some 5), .none, (.mov (.c (.int .i64 1))), 0, []⟩]) (.block 2 (.loop (.seq (.seq (.reg false [⟨(some 29), .none, (.mov (.t 5)), 0, []⟩, ⟨(some 30), .none, (.mov (.t 4)), 1, []⟩, ⟨(some 31), .none, (.lenS (.t 30)), 2, []⟩, ⟨(some 32), .none, (.bin .lss (.t 29) (.t 31)), 3, []⟩]) (.cond (.t 32) .skip (.exit 2))) (.seq (.block 3 (.seq (.reg true [⟨(some 35), .none, (.mov (.t 4)), 0, []⟩, ⟨(some 36), .none, (.mov (.t 5)), 1, []⟩, ⟨(some 37), .none, (.iadr 1 (.t 35) (.t 36)), 2, [0, 1]⟩, ⟨(some 38), .none, (.load 1 false (.t 37)), 3, [2, 0, 1]⟩, ⟨(some 39), .none, (.mov (.t 4)), 4, []⟩, ⟨(some 40), .none, (.mov (.t 5)), 5, []⟩, ⟨(some 41), .none, (.bin .sub (.t 40) (.c (.int .i64 1))), 6, [5]⟩, ⟨(some 42), .none, (.iadr 1 (.t 39) (.t 41)), 7, [4, 6, 5]⟩, ⟨(some 43), .none, (.load 1 false (.t 42)), 8, [7, 4, 6, 5]⟩, ⟨(some 44), .none, (.bin .neq (.t 38) (.t 43)), 9, [3, 2, 0, 1, 8, 7, 4, 6, 5]⟩]) (.cond (.t 44) (.seq (.reg false [⟨(some 45), .none, (.mov (.t 0)), 0, []⟩, ⟨(some 46), .none, (.mov (.t 3)), 1, []⟩, ⟨(some 47), .none, (.mov (.t 4)), 2, []⟩, ⟨(some 48), .none, (.mov (.t 5)), 3, []⟩, ⟨(some 49), .none, (.iadr 1 (.t 47) (.t 48)), 4, []⟩, ⟨(some 50), .none, (.load 1 false (.t 49)), 5, []⟩, ⟨(some 51), .none, (.iadr 1 (.t 45) (.t 46)), 6, []⟩, ⟨.none, .none, (.store 1 (.t 51) (.t 50)), 7, []⟩]) (.reg false [⟨(some 52), .none, (.mov (.t 3)), 0, []⟩, ⟨(some 53), .none, (.bin .add (.t 52) (.c (.int .i64 1))), 1, []⟩, ⟨(some 3), .none, (.mov (.t 53)), 2, []⟩])) .skip))) (.reg false [⟨(some 33), .none, (.mov (.t 5)), 0, []⟩, ⟨(some 34), .none, (.bin .add (.t 33) (.c (.int .i64 1))), 1, []⟩, ⟨(some 5), .none, (.mov (.t 34)), 2, []⟩])))))) (.seq (.reg false [⟨(some 54), .none, (.mov (.t 0)), 0, []⟩, ⟨(some 55), .none, (.mov (.t 3)), 1, []⟩, ⟨(some 56), .none, (.slc 1 (.t 54) (.some (.t 55)) .none), 2, []⟩, ⟨.none, .none, (.clr 1 [(.int .i64 0)] (.t 56)), 3, []⟩]) (.seq (.reg false [⟨(some 57), .none, (.mov (.t 0)), 0, []⟩, ⟨(some 58), .none, (.mov (.t 3)), 1, []⟩, ⟨(some 59), .none, (.slc 1 (.t 57) .none (.some (.t 58))), 2, []⟩, ⟨(some 2), .none, (.mov (.t 59)), 3, []⟩]) .ret)))) .skip))) (.reg false [⟨(some 14), .none, (.mov (.t 3)), 0, []⟩, ⟨(some 15), .none, (.bin .add (.t 14) (.c (.int .i64 1))), 1, []⟩, ⟨(some 3), .none, (.mov (.t 15)), 2, []⟩])))))) (.seq (.reg false [⟨(some 60), .none, (.mov (.t 0)), 0, []⟩, ⟨(some 2), .none, (.mov (.t 60)), 1, []⟩]) .ret)))), [(.t 2)]⟩
theorem k100 : EE.fns 100 = some c100 := by kernel_rfl
end Go.Proofs.Ytceilcdhflcbpaa.Ev

/- Rules: sets, right rules, both ways. -/
namespace Go.Proofs.Ytceilcdhflcbpaa.Ev
set_option linter.all false
open Go
set_option maxRecDepth 4000

abbrev SlI (H : Hp) (v : Value) (l : List Int) : Prop := Sl (En eI) 1 H v l
theorem Sl.int {H : Hp} {v : Value} {l : List Int} (h : SlI H v l) {i : Nat} {a : Int} (hi : l[i]? = some a) : ∃ id p o, H[id]? = some o ∧ o[p]? = some (.int .i64 a) ∧
    ∀ (s : St) (x y : X), exv s.ρ x = some v → exv s.ρ y = some (.int .i64 i) → iadrK s 1 x y = some (.val (.pointer (some ⟨id, p, some o.length⟩)), s) := by
  obtain ⟨id, p, o, ho, hr, hp, hia⟩ := h.elem hi
  unfold En at hr
  exact ⟨id, p, o, ho, by simpa [eI] using getElem?_of_take hr (j := 0) (by omega), hia⟩
/-- A rule: kind, set, number. -/
abbrev Ru := Int × List Int × Int
def RU (H : Hp) (a : Ru) (cs : List Value) : Prop := ∃ w, cs = [.int .i64 a.1, w, .int .i64 a.2.2] ∧ SlI H w a.2.1
abbrev SlR (H : Hp) (v : Value) (l : List Ru) : Prop := Sl (RU H) 3 H v l
theorem SlR.pre {H H' : Hp} {v : Value} {l : List Ru} (h : SlR H v l) (hp : H <+: H') : SlR H' v l :=
  (Sl.pre h hp).frame (fun a _ cs ⟨w, e, hs⟩ => ⟨w, e, hs.pre hp⟩) fun _ _ _ _ _ _ => rfl
def vRu (a : Ru) (w : Value) : Value := .agg #[.int .i64 a.1, w, .int .i64 a.2.2]

def SetP (l : List Int) : Prop := (∀ n ∈ l, 0 ≤ n ∧ n ≤ 30) ∧ ∀ i, (h : i + 1 < l.length) → l[i]'(by omega) < l[i + 1]
open Classical in
noncomputable def setOk (l : List Int) : Bool := decide (SetP l)
theorem set_t {l : List Int} : setOk l = true ↔ SetP l := by unfold setOk; simp
theorem set_no {l : List Int} (h : ¬ SetP l) : setOk l = false := by
  cases h2 : setOk l with
  | false => rfl
  | true => exact absurd (set_t.1 h2) h
theorem set_asc {l : List Int} (h : SetP l) : Asc l := by
  refine List.pairwise_iff_getElem.2 fun i j hi hj hij => ?_
  obtain ⟨d, rfl⟩ : ∃ d, j = i + 1 + d := ⟨j - (i + 1), by omega⟩
  induction d with
  | zero => exact h.2 i hj
  | succ d ih => exact Int.lt_trans (ih (by omega) (by omega)) (h.2 (i + 1 + d) hj)
theorem asc_set {l : List Int} (h : Asc l) (h2 : ∀ n ∈ l, 0 ≤ n ∧ n ≤ 30) : SetP l := ⟨h2, fun i hi => List.pairwise_iff_getElem.1 h i (i + 1) (by omega) hi (by omega)⟩
theorem set_len {l : List Int} (h : SetP l) : l.length ≤ 31 := by
  have key : ∀ i, (hi : i < l.length) → (i : Int) ≤ l[i] := fun i => by
    induction i with
    | zero => intro hi; have := (h.1 _ (List.getElem_mem hi)).1; omega
    | succ i ih => intro hi; have := ih (by omega); have := h.2 i hi; omega
  by_cases h0 : l.length = 0
  · omega
  · have := key (l.length - 1) (by omega)
    have := (h.1 _ (List.getElem_mem (show l.length - 1 < l.length by omega))).2
    omega

theorem f88 {H : Hp} {v : Value} {l : List Int} (hl : SlI H v l) : Scal EE 88 [v] H (.bool (setOk l)) := by
  refine scal_ok rfl rfl k88 (by simp [c88]) rfl fun m hw => ?_
  have hroom := hl.room
  simp only [go_sem, ↓reduceIte, Nat.reduceEqDiff, reduceCtorEq, Nat.reduceAdd, Nat.reduceLeDiff, Nat.reduceMul, c88]
  refine go_for l.length (fun i s => s.H = H ∧ s.ρ 0 = .val v ∧ s.ρ 3 = .val (.int .i64 i) ∧ (∀ n ∈ l.take i, 0 ≤ n ∧ n ≤ 30) ∧ ∀ k, (h : k + 1 < l.length) → k + 1 < i → l[k]'(by omega) < l[k + 1])
    (fun s => s.H = H ∧ SetP l) (by simp [upd, ini]) ?_ ?_
  · rintro i s hi ⟨hH, k0, k3, hn, hr⟩
    simp only [go_sem, ↓reduceIte, Nat.reduceEqDiff, reduceCtorEq, Nat.reduceAdd, Nat.reduceLeDiff, Nat.reduceMul, k0, k3, hl.len]
    cases c1 : decide ((i : Int) < (l.length : Int)) <;> simp only [go_sem, ↓reduceIte, Nat.reduceEqDiff, reduceCtorEq, Nat.reduceAdd, Nat.reduceLeDiff, Nat.reduceMul, k0, k3, c1]
    · have : i = l.length := by have := of_decide_eq_false c1; omega
      subst this
      rw [List.take_length] at hn
      exact ⟨hH, hn, fun k h => hr k h h⟩
    have hil : i < l.length := by have := of_decide_eq_true c1; omega
    obtain ⟨id, q, o, ho, hg, hia⟩ := hl.int (List.getElem?_eq_getElem hil)
    have w1 := wrap64 ((i : Int) + 1) (by omega) (by omega)
    have wm := wrap64 ((i : Int) - 1) (by omega) (by omega)
    have next : inB l[i] 0 30 = true → (∀ n ∈ l.take (i + 1), 0 ≤ n ∧ n ≤ 30) := fun h n hm => by
      rw [List.take_succ_eq_append_getElem hil, List.mem_append, List.mem_singleton] at hm
      rcases hm with hm | hm
      · exact hn n hm
      · subst hm; exact inB_t.1 h
    refine go_draw ?_
    cases qa : inB l[i] 0 30
    · simp only [go_sem, ↓reduceIte, Nat.reduceEqDiff, reduceCtorEq, Nat.reduceAdd, Nat.reduceLeDiff, Nat.reduceMul, k0, k3, hia, hH, ho, hg, c45', hw, qa]
      refine ⟨by rfl, ?_⟩
      (try simp only [go_sem, ↓reduceIte, Nat.reduceEqDiff, reduceCtorEq, Nat.reduceAdd, Nat.reduceLeDiff, Nat.reduceMul, hH])
      rw [set_no fun h => by have := h.1 _ (List.getElem_mem hil); rw [inB_t.2 this] at qa; cases qa]
    cases qb : decide ((i : Int) > 0)
    · simp only [go_sem, ↓reduceIte, Nat.reduceEqDiff, reduceCtorEq, Nat.reduceAdd, Nat.reduceLeDiff, Nat.reduceMul, k0, k3, hia, hH, ho, hg, c45', hw, qa, qb]
      refine ⟨by rfl, ?_⟩
      simp only [go_sem, ↓reduceIte, Nat.reduceEqDiff, reduceCtorEq, Nat.reduceAdd, Nat.reduceLeDiff, Nat.reduceMul, k0, k3, hH, w1]
      exact ⟨hil, by simp, next qa, fun k h hk => by have := of_decide_eq_false qb; omega⟩
    have hi0 : 0 < i := by have := of_decide_eq_true qb; omega
    obtain ⟨j, rfl⟩ : ∃ j, i = j + 1 := ⟨i - 1, by omega⟩
    have e1 : ((j + 1 : Nat) : Int) - 1 = (j : Int) := by omega
    rw [e1] at wm
    obtain ⟨id2, q2, o2, ho2, hg2, hia2⟩ := hl.int (List.getElem?_eq_getElem (show j < l.length by omega))
    simp only [go_sem, ↓reduceIte, Nat.reduceEqDiff, reduceCtorEq, Nat.reduceAdd, Nat.reduceLeDiff, Nat.reduceMul, k0, k3, hia, hH, ho, hg, c45', hw, qa, qb, e1, wm, hia2, ho2, hg2]
    refine ⟨by rfl, ?_⟩
    cases qc : decide (l[j] ≥ l[j + 1]) <;> simp only [go_sem, ↓reduceIte, Nat.reduceEqDiff, reduceCtorEq, Nat.reduceAdd, Nat.reduceLeDiff, Nat.reduceMul, k0, k3, hH, qc, w1]
    · refine ⟨hil, by simp, next qa, fun k h hk => ?_⟩
      by_cases e : k = j
      · subst e; have := of_decide_eq_false qc; omega
      · exact hr k h (by omega)
    · rw [set_no fun h => by have := h.2 j hil; have := of_decide_eq_true qc; omega]
  · rintro s ⟨hH, hp⟩
    simp only [go_sem, ↓reduceIte, Nat.reduceEqDiff, reduceCtorEq, Nat.reduceAdd, Nat.reduceLeDiff, Nat.reduceMul, hH]
    rw [set_t.2 hp]
theorem f96 {H : Hp} {v : Value} {l : List Int} (hl : SlI H v l) : ScalP EE 96 [v] H fun r => ∃ b : Bool, r = .bool b ∧ (b = true ↔ ∀ i, (h : i + 1 < l.length) → l[i]'(by omega) < l[i + 1]) := by
  refine scalP_ok rfl rfl k96 (by simp [c96]) fun m hw => ?_
  have hroom := hl.room
  simp only [go_sem, ↓reduceIte, Nat.reduceEqDiff, reduceCtorEq, Nat.reduceAdd, Nat.reduceLeDiff, Nat.reduceMul, c96]
  refine go_for l.length (fun i s => s.H = H ∧ s.ρ 0 = .val v ∧ s.ρ 3 = .val (.int .i64 ((i + 1 : Nat) : Int)) ∧ i ≤ l.length ∧ ∀ k, (h : k + 1 < l.length) → k < i → l[k]'(by omega) < l[k + 1])
    (fun s => s.H = H ∧ ∀ k, (h : k + 1 < l.length) → l[k]'(by omega) < l[k + 1]) (by simp [upd, ini]) ?_ ?_
  · rintro i s hi ⟨hH, k0, k3, hle, hr⟩
    simp only [go_sem, ↓reduceIte, Nat.reduceEqDiff, reduceCtorEq, Nat.reduceAdd, Nat.reduceLeDiff, Nat.reduceMul, k0, k3, hl.len]
    cases c1 : decide (((i + 1 : Nat) : Int) < (l.length : Int)) <;> simp only [go_sem, ↓reduceIte, Nat.reduceEqDiff, reduceCtorEq, Nat.reduceAdd, Nat.reduceLeDiff, Nat.reduceMul, k0, k3, c1]
    · have := of_decide_eq_false c1
      exact ⟨hH, fun k h => hr k h (by omega)⟩
    have hil : i + 1 < l.length := by have := of_decide_eq_true c1; omega
    have w1 : IntKind.i64.wrap (((i + 1 : Nat) : Int) + 1) = ((i + 1 + 1 : Nat) : Int) := by rw [wrap64 _ (by omega) (by omega)]; omega
    have wm : IntKind.i64.wrap (((i + 1 : Nat) : Int) - 1) = (i : Int) := by rw [wrap64 _ (by omega) (by omega)]; omega
    obtain ⟨id, q, o, ho, hg, hia⟩ := hl.int (List.getElem?_eq_getElem hil)
    obtain ⟨id2, q2, o2, ho2, hg2, hia2⟩ := hl.int (List.getElem?_eq_getElem (show i < l.length by omega))
    refine go_draw ?_
    simp only [go_sem, ↓reduceIte, Nat.reduceEqDiff, reduceCtorEq, Nat.reduceAdd, Nat.reduceLeDiff, Nat.reduceMul, k0, k3, hia, hH, ho, hg, wm, hia2, ho2, hg2]
    refine ⟨by rfl, ?_⟩
    cases qc : decide (l[i] ≥ l[i + 1]) <;> simp only [go_sem, ↓reduceIte, Nat.reduceEqDiff, reduceCtorEq, Nat.reduceAdd, Nat.reduceLeDiff, Nat.reduceMul, k0, k3, hH, qc, w1]
    · refine ⟨by omega, by omega, fun k h hk => ?_⟩
      by_cases e : k = i
      · subst e; have := of_decide_eq_false qc; omega
      · exact hr k h (by omega)
    · exact ⟨false, rfl, by simp, fun h => by have := h i hil; have := of_decide_eq_true qc; omega⟩
  · rintro s ⟨hH, hp⟩
    simp only [go_sem, ↓reduceIte, Nat.reduceEqDiff, reduceCtorEq, Nat.reduceAdd, Nat.reduceLeDiff, Nat.reduceMul, hH]
    exact ⟨true, rfl, fun _ => hp, fun _ => rfl⟩
theorem f98 {H : Hp} {a : Int} : Scal EE 98 [.int .i64 a] H (.bool (inB a 0 30)) := by
  refine scal_ok rfl rfl k98 (by simp [c98]) rfl fun m hw => ?_
  simp only [go_sem, ↓reduceIte, Nat.reduceEqDiff, reduceCtorEq, Nat.reduceAdd, Nat.reduceLeDiff, Nat.reduceMul, c98, c48', hw]
theorem f91 {H : Hp} {a : Int} : Scal EE 91 [.int .i64 a] H (.bool (inB a 0 100000)) := by
  refine scal_ok rfl rfl k91 (by simp [c91]) rfl fun m hw => ?_
  simp only [go_sem, ↓reduceIte, Nat.reduceEqDiff, reduceCtorEq, Nat.reduceAdd, Nat.reduceLeDiff, Nat.reduceMul, c91, c48', hw]
theorem c91' {m : Md} {draw : Bool} {s : St} {d : Option Nat} {ts : List Tk} {Q : Ex → St → Prop} {a : Int} (hw : Wr m s.H) :
    callT EE m draw 91 (some [.int .i64 a]) s d ts Q = go EE m ts { s with ρ := upd s.ρ d (.val (.bool (inB a 0 100000))) } Q := callT_at f91 rfl hw
theorem f97 {H : Hp} {v : Value} {l : List Int} {most : Nat} {k : Nat} {caps : Array Value} {p : Int → Bool} (hl : SlI H v l) (hk : ∀ n, Scal EE k ([.int .i64 n] ++ caps.toList) H (.bool (p n))) :
    Scal EE 97 [v, .int .i64 most, .func (.func k) #[] caps] H (.bool (l.all p && decide (l.length ≤ most))) := by
  refine scal_ok rfl rfl k97 (by simp [c97]) rfl fun m hw => ?_
  have hroom := hl.room
  simp only [go_sem, ↓reduceIte, Nat.reduceEqDiff, reduceCtorEq, Nat.reduceAdd, Nat.reduceLeDiff, Nat.reduceMul, c97, hl.len]
  refine go_for l.length (fun i s => s.H = H ∧ s.ρ 0 = .val v ∧ s.ρ 1 = .val (.int .i64 most) ∧ s.ρ 2 = .val (.func (.func k) #[] caps) ∧ s.ρ 9 = .val v ∧ s.ρ 10 = .val (.int .i64 l.length) ∧ s.ρ 11 = .val (.int .i64 i) ∧ (l.take i).all p = true)
    (fun s => s.H = H ∧ s.ρ 0 = .val v ∧ s.ρ 1 = .val (.int .i64 most) ∧ l.all p = true) (by simp [upd, ini]) ?_ ?_
  · rintro i s hi ⟨hH, h0, h1, h2, h9, h10, h11, hn⟩
    simp only [go_sem, ↓reduceIte, Nat.reduceEqDiff, reduceCtorEq, Nat.reduceAdd, Nat.reduceLeDiff, Nat.reduceMul, h0, h1, h2, h9, h10, h11]
    refine brT.intro (fun h3 => ?_) (fun h3 => ?_) <;> simp only [go_sem, ↓reduceIte, Nat.reduceEqDiff, reduceCtorEq, Nat.reduceAdd, Nat.reduceLeDiff, Nat.reduceMul, h0, h1, h2, h9, h10, h11]
    · have h4 : i < l.length := by simpa using h3
      have hgi := List.getElem?_eq_getElem h4
      obtain ⟨id, q, o, ho, hr, hia⟩ := hl.int hgi
      have ak := fun {m draw s d ts Q} => callT_at (m := m) (draw := draw) (s := s) (d := d) (ts := ts) (Q := Q) (hk l[i])
      simp only [List.singleton_append] at ak
      simp only [go_sem, ↓reduceIte, Nat.reduceEqDiff, reduceCtorEq, Nat.reduceAdd, Nat.reduceLeDiff, Nat.reduceMul, h0, h1, h2, h9, h10, h11, hia, hH, ho, hr, ak, hw]
      refine brT.intro (fun h5 => ?_) (fun h5 => ?_) <;> simp only [go_sem, ↓reduceIte, Nat.reduceEqDiff, reduceCtorEq, Nat.reduceAdd, Nat.reduceLeDiff, Nat.reduceMul, h0, h1, h2, h9, h10, h11, wrap64 ((i : Int) + 1) (by omega) (by omega)]
      · refine ⟨h4, by simp, ?_⟩
        rw [List.take_succ_eq_append_getElem h4, List.all_append, hn]
        simp [h5]
      · have : l.all p = false := List.all_eq_false.2 ⟨_, List.getElem_mem h4, by simp [h5]⟩
        simp [this]
    · have h4 : ¬ i < l.length := by simpa using h3
      rw [List.take_of_length_le (by omega)] at hn
      exact ⟨hH, hn⟩
  · rintro s ⟨hH, h0, h1, hn⟩
    simp only [go_sem, ↓reduceIte, Nat.reduceEqDiff, reduceCtorEq, Nat.reduceAdd, Nat.reduceLeDiff, Nat.reduceMul, h0, h1, hH, hl.len, hn]
    simp
theorem f90 {H : Hp} {v : Value} {l : List Int} (hl : SlI H v l) : Scal EE 90 [v] H (.bool (setOk l)) := by
  refine scal_ok rfl rfl k90 (by simp [c90]) rfl fun m hw => ?_
  have a97 := fun {m draw s d ts Q} => callT_at (m := m) (draw := draw) (s := s) (d := d) (ts := ts) (Q := Q) (f97 (k := 98) (most := 31) (caps := #[]) (p := fun n => inB n 0 30) hl (fun n => f98))
  have e31 : ((31 : Nat) : Int) = 31 := rfl
  rw [e31] at a97
  simp only [go_sem, ↓reduceIte, Nat.reduceEqDiff, reduceCtorEq, Nat.reduceAdd, Nat.reduceLeDiff, Nat.reduceMul, c90]
  refine callT_to (fun m' h => f96 hl m' h) rfl hw fun r H' ⟨⟨b, e, hb⟩, e2⟩ => ?_
  subst e; subst e2
  cases b with
  | false =>
    simp only [go_sem, ↓reduceIte, Nat.reduceEqDiff, reduceCtorEq, Nat.reduceAdd, Nat.reduceLeDiff, Nat.reduceMul]
    rw [set_no fun h => by have := hb.2 h.2; cases this]
  | true =>
    have hr := hb.1 rfl
    simp only [go_sem, ↓reduceIte, Nat.reduceEqDiff, reduceCtorEq, Nat.reduceAdd, Nat.reduceLeDiff, Nat.reduceMul, a97, hw]
    have : (l.all (fun n => inB n 0 30) && decide (l.length ≤ 31)) = setOk l := by
      rw [Bool.eq_iff_iff, set_t, Bool.and_eq_true, List.all_eq_true, decide_eq_true_eq]
      exact ⟨fun h => ⟨fun n hn => inB_t.1 (h.1 n hn), hr⟩, fun h => ⟨fun n hn => inB_t.2 (h.1 n hn), set_len h⟩⟩
    rw [this]
/-- Is a rule right? -/
noncomputable def rOk (a : Ru) : Bool := if inB a.1 1 3 = true then decide (a.2.2 = 0) && setOk a.2.1 else if inB a.1 4 5 = true then decide (a.2.1.length = 0) && inB a.2.2 0 100000 else false
theorem f68 {H : Hp} {w : Value} {a : Ru} (hs : SlI H w a.2.1) : Scal EE 68 [vRu a w] H (.bool (rOk a)) := by
  refine scal_ok rfl rfl k68 (by simp [c68]) rfl fun m hw => ?_
  have a88 := fun {m draw s d ts Q} => callT_at (m := m) (draw := draw) (s := s) (d := d) (ts := ts) (Q := Q) (f88 hs)
  unfold vRu
  simp only [go_sem, ↓reduceIte, Nat.reduceEqDiff, reduceCtorEq, Nat.reduceAdd, Nat.reduceLeDiff, Nat.reduceMul, c68, c45', hw]
  cases q1 : inB a.1 1 3 <;> simp only [go_sem, ↓reduceIte, Nat.reduceEqDiff, reduceCtorEq, Nat.reduceAdd, Nat.reduceLeDiff, Nat.reduceMul, q1, c45', hw]
  · cases q2 : inB a.1 4 5 <;> simp only [go_sem, ↓reduceIte, Nat.reduceEqDiff, reduceCtorEq, Nat.reduceAdd, Nat.reduceLeDiff, Nat.reduceMul, q2, hs.len, c45', hw]
    · rw [show rOk a = false by unfold rOk; rw [q1, q2]; rfl]
    · cases q3 : decide ((a.2.1.length : Int) = 0) <;> simp only [go_sem, ↓reduceIte, Nat.reduceEqDiff, reduceCtorEq, Nat.reduceAdd, Nat.reduceLeDiff, Nat.reduceMul, q3, c45', hw]
      · rw [show rOk a = false by unfold rOk; rw [q1, q2, show decide (a.2.1.length = 0) = false from decide_eq_false (by have := of_decide_eq_false q3; omega)]; rfl]
      · rw [show rOk a = inB a.2.2 0 100000 by unfold rOk; rw [q1, q2, show decide (a.2.1.length = 0) = true from decide_eq_true (by have := of_decide_eq_true q3; omega)]; rfl]
  · cases q3 : decide (a.2.2 = 0) <;> simp only [go_sem, ↓reduceIte, Nat.reduceEqDiff, reduceCtorEq, Nat.reduceAdd, Nat.reduceLeDiff, Nat.reduceMul, q3, a88, hw]
    · rw [show rOk a = false by unfold rOk; rw [q1, q3]; rfl]
    · rw [show rOk a = setOk a.2.1 by unfold rOk; rw [q1, q3]; rfl]
theorem f79 {H : Hp} {w : Value} {a : Ru} (hs : SlI H w a.2.1) : Scal EE 79 [vRu a w] H (.bool (rOk a)) := by
  refine scal_ok rfl rfl k79 (by simp [c79]) rfl fun m hw => ?_
  have a90 := fun {m draw s d ts Q} => callT_at (m := m) (draw := draw) (s := s) (d := d) (ts := ts) (Q := Q) (f90 hs)
  have r3 : inB a.1 1 3 = true → ∀ b : Bool, decide (a.2.2 = 0) = b → rOk a = (b && setOk a.2.1) := fun h b hb => by unfold rOk; rw [if_pos h, hb]
  have r5 : inB a.1 1 3 = false → inB a.1 4 5 = true → rOk a = (inB a.2.2 0 100000 && decide ((a.2.1.length : Int) = 0)) := fun h1 h2 => by
    unfold rOk
    rw [if_neg (by rw [h1]; simp), if_pos h2, Bool.and_comm, show decide (a.2.1.length = 0) = decide ((a.2.1.length : Int) = 0) from decide_eq_decide.2 (by omega)]
  have three : inB a.1 1 3 = true → setOk a.2.1 = false → rOk a = false := fun h1 h2 => by rw [r3 h1 _ rfl, h2, Bool.and_false]
  have three2 : inB a.1 1 3 = true → setOk a.2.1 = true → rOk a = decide (a.2.2 = 0) := fun h1 h2 => by rw [r3 h1 _ rfl, h2, Bool.and_true]
  have five : inB a.1 1 3 = false → inB a.1 4 5 = true → inB a.2.2 0 100000 = false → rOk a = false := fun h1 h2 h3 => by rw [r5 h1 h2, h3, Bool.false_and]
  have five2 : inB a.1 1 3 = false → inB a.1 4 5 = true → inB a.2.2 0 100000 = true → rOk a = decide ((a.2.1.length : Int) = 0) := fun h1 h2 h3 => by rw [r5 h1 h2, h3, Bool.true_and]
  unfold vRu
  simp only [go_sem, ↓reduceIte, Nat.reduceEqDiff, reduceCtorEq, Nat.reduceAdd, Nat.reduceLeDiff, Nat.reduceMul, c79]
  by_cases h13 : 1 ≤ a.1 ∧ a.1 ≤ 3
  · have i13 := inB_t.2 h13
    have : a.1 = 1 ∨ a.1 = 2 ∨ a.1 = 3 := by omega
    have fin : ∀ b : Bool, setOk a.2.1 = b → (b = false → rOk a = false) ∧ (b = true → rOk a = decide (a.2.2 = 0)) := fun b hb => ⟨fun h => three i13 (hb.trans h), fun h => three2 i13 (hb.trans h)⟩
    rcases this with e | e | e
    · have d1 : decide (a.1 = 1) = true := decide_eq_true e
      simp only [go_sem, ↓reduceIte, Nat.reduceEqDiff, reduceCtorEq, Nat.reduceAdd, Nat.reduceLeDiff, Nat.reduceMul, d1, a90, hw]
      cases q : setOk a.2.1 <;> simp only [go_sem, ↓reduceIte, Nat.reduceEqDiff, reduceCtorEq, Nat.reduceAdd, Nat.reduceLeDiff, Nat.reduceMul, q]
      · rw [three i13 q]
      · rw [three2 i13 q]
    · have d1 : decide (a.1 = 1) = false := decide_eq_false (by omega)
      have d2 : decide (a.1 = 2) = true := decide_eq_true e
      simp only [go_sem, ↓reduceIte, Nat.reduceEqDiff, reduceCtorEq, Nat.reduceAdd, Nat.reduceLeDiff, Nat.reduceMul, d1, d2, a90, hw]
      cases q : setOk a.2.1 <;> simp only [go_sem, ↓reduceIte, Nat.reduceEqDiff, reduceCtorEq, Nat.reduceAdd, Nat.reduceLeDiff, Nat.reduceMul, q]
      · rw [three i13 q]
      · rw [three2 i13 q]
    · have d1 : decide (a.1 = 1) = false := decide_eq_false (by omega)
      have d2 : decide (a.1 = 2) = false := decide_eq_false (by omega)
      have d3 : decide (a.1 = 3) = true := decide_eq_true e
      simp only [go_sem, ↓reduceIte, Nat.reduceEqDiff, reduceCtorEq, Nat.reduceAdd, Nat.reduceLeDiff, Nat.reduceMul, d1, d2, d3, a90, hw]
      cases q : setOk a.2.1 <;> simp only [go_sem, ↓reduceIte, Nat.reduceEqDiff, reduceCtorEq, Nat.reduceAdd, Nat.reduceLeDiff, Nat.reduceMul, q]
      · rw [three i13 q]
      · rw [three2 i13 q]
  · have i13 : inB a.1 1 3 = false := by
      cases h : inB a.1 1 3 with
      | false => rfl
      | true => exact absurd (inB_t.1 h) h13
    have d1 : decide (a.1 = 1) = false := decide_eq_false (by omega)
    have d2 : decide (a.1 = 2) = false := decide_eq_false (by omega)
    have d3 : decide (a.1 = 3) = false := decide_eq_false (by omega)
    by_cases h45 : 4 ≤ a.1 ∧ a.1 ≤ 5
    · have i45 := inB_t.2 h45
      by_cases e : a.1 = 4
      · have d4 : decide (a.1 = 4) = true := decide_eq_true e
        simp only [go_sem, ↓reduceIte, Nat.reduceEqDiff, reduceCtorEq, Nat.reduceAdd, Nat.reduceLeDiff, Nat.reduceMul, d1, d2, d3, d4, c91', hw]
        cases q : inB a.2.2 0 100000 <;> simp only [go_sem, ↓reduceIte, Nat.reduceEqDiff, reduceCtorEq, Nat.reduceAdd, Nat.reduceLeDiff, Nat.reduceMul, q, hs.len]
        · rw [five i13 i45 q]
        · rw [five2 i13 i45 q]
      · have d4 : decide (a.1 = 4) = false := decide_eq_false e
        have d5 : decide (a.1 = 5) = true := decide_eq_true (by omega)
        simp only [go_sem, ↓reduceIte, Nat.reduceEqDiff, reduceCtorEq, Nat.reduceAdd, Nat.reduceLeDiff, Nat.reduceMul, d1, d2, d3, d4, d5, c91', hw]
        cases q : inB a.2.2 0 100000 <;> simp only [go_sem, ↓reduceIte, Nat.reduceEqDiff, reduceCtorEq, Nat.reduceAdd, Nat.reduceLeDiff, Nat.reduceMul, q, hs.len]
        · rw [five i13 i45 q]
        · rw [five2 i13 i45 q]
    · have d4 : decide (a.1 = 4) = false := decide_eq_false (by omega)
      have d5 : decide (a.1 = 5) = false := decide_eq_false (by omega)
      simp only [go_sem, ↓reduceIte, Nat.reduceEqDiff, reduceCtorEq, Nat.reduceAdd, Nat.reduceLeDiff, Nat.reduceMul, d1, d2, d3, d4, d5]
      rw [show rOk a = false by
        unfold rOk
        rw [if_neg (by rw [i13]; simp), if_neg (fun h => h45 (inB_t.1 h))]]
theorem f78 {H : Hp} {w : Value} {a : Ru} (hs : SlI H w a.2.1) : Scal EE 78 [vRu a w] H (.bool (!rOk a)) := by
  refine scal_ok rfl rfl k78 (by simp [c78]) rfl fun m hw => ?_
  have a79 := fun {m draw s d ts Q} => callT_at (m := m) (draw := draw) (s := s) (d := d) (ts := ts) (Q := Q) (f79 hs)
  unfold vRu at a79 ⊢
  simp only [go_sem, ↓reduceIte, Nat.reduceEqDiff, reduceCtorEq, Nat.reduceAdd, Nat.reduceLeDiff, Nat.reduceMul, c78, a79, hw]
end Go.Proofs.Ytceilcdhflcbpaa.Ev

/- Rules: what they allow, both ways. -/
namespace Go.Proofs.Ytceilcdhflcbpaa.Ev
set_option linter.all false
open Go
set_option maxRecDepth 4000

/-- The first that has it. -/
def IdxR {α : Type} (l : List α) (p : α → Bool) (n : Int) : Prop := (n = -1 ∧ ∀ a ∈ l, p a = false) ∨ ∃ i : Nat, ∃ h : i < l.length, n = i ∧ p l[i] = true ∧ ∀ a ∈ l.take i, p a = false
theorem IdxR.any {α : Type} {l : List α} {p : α → Bool} {n : Int} (h : IdxR l p n) : decide (n ≥ 0) = l.any p := by
  rcases h with ⟨e, h⟩ | ⟨i, hi, e, h, _⟩
  · rw [e, show l.any p = false from List.any_eq_false.2 fun a ha => by rw [h a ha]; simp]
    rfl
  · rw [e, show l.any p = true from List.any_eq_true.2 ⟨_, List.getElem_mem hi, h⟩]
    exact decide_eq_true (by omega)
theorem none_succ {α : Type} {l : List α} {p : α → Bool} {i : Nat} (hi : i < l.length) (h : ∀ a ∈ l.take i, p a = false) (h2 : p l[i] = false) : ∀ a ∈ l.take (i + 1), p a = false := fun a ha => by
  rw [List.take_succ_eq_append_getElem hi, List.mem_append, List.mem_singleton] at ha
  rcases ha with ha | ha
  · exact h a ha
  · subst ha; exact h2
theorem f62 {H : Hp} {v : Value} {l : List Ru} {k : Nat} {caps : Array Value} {p : Ru → Bool} (hl : SlR H v l) (hk : ∀ a w, SlI H w a.2.1 → Scal EE k ([vRu a w] ++ caps.toList) H (.bool (p a))) : ScalP EE 62 [v, .func (.func k) #[] caps] H fun r => ∃ n : Int, r = .int .i64 n ∧ IdxR l p n := by
  refine scalP_ok rfl rfl k62 (by simp [c62]) fun m hw => ?_
  have hroom := hl.room
  simp only [go_sem, ↓reduceIte, Nat.reduceEqDiff, reduceCtorEq, Nat.reduceAdd, Nat.reduceLeDiff, Nat.reduceMul, c62, hl.len]
  refine go_for l.length (fun i s => s.H = H ∧ s.ρ 0 = .val v ∧ s.ρ 1 = .val (.func (.func k) #[] caps) ∧ s.ρ 7 = .val (.int .i64 l.length) ∧ s.ρ 8 = .val (.int .i64 i) ∧ ∀ a ∈ l.take i, p a = false) (fun s => s.H = H ∧ ∀ a ∈ l, p a = false) (by simp [upd, ini]) ?_ ?_
  · rintro i s hi ⟨hH, k0, k1, k7, k8, hn⟩
    simp only [go_sem, ↓reduceIte, Nat.reduceEqDiff, reduceCtorEq, Nat.reduceAdd, Nat.reduceLeDiff, Nat.reduceMul, k0, k1, k7, k8]
    refine brT.intro (fun q1 => ?_) (fun q1 => ?_) <;> simp only [go_sem, ↓reduceIte, Nat.reduceEqDiff, reduceCtorEq, Nat.reduceAdd, Nat.reduceLeDiff, Nat.reduceMul, k0, k1, k7, k8]
    · have hil : i < l.length := by have := of_decide_eq_true q1; omega
      obtain ⟨id2, q, o2, ho, ⟨w, hr, hs⟩, hp, hia⟩ := hl.elem (List.getElem?_eq_getElem hil)
      have ak := fun {m draw s d ts Q} => callT_at (m := m) (draw := draw) (s := s) (d := d) (ts := ts) (Q := Q) (hk l[i] w hs)
      simp only [List.singleton_append] at ak
      unfold vRu at ak
      simp only [go_sem, ↓reduceIte, Nat.reduceEqDiff, reduceCtorEq, Nat.reduceAdd, Nat.reduceLeDiff, Nat.reduceMul, k0, k1, k7, k8, hia, hH, ho, hr, hp, ak, hw]
      cases q2 : p l[i] <;> simp only [go_sem, ↓reduceIte, Nat.reduceEqDiff, reduceCtorEq, Nat.reduceAdd, Nat.reduceLeDiff, Nat.reduceMul, k0, k1, k7, k8, q2, wrap64 ((i : Int) + 1) (by omega) (by omega)]
      · exact ⟨hil, by simp, none_succ hil hn q2⟩
      · exact ⟨_, rfl, .inr ⟨i, hil, rfl, q2, hn⟩⟩
    · have : i = l.length := by have := of_decide_eq_false q1; omega
      subst this
      rw [List.take_length] at hn
      exact ⟨hH, hn⟩
  · rintro s ⟨hH, hn⟩
    simp only [go_sem, ↓reduceIte, Nat.reduceEqDiff, reduceCtorEq, Nat.reduceAdd, Nat.reduceLeDiff, Nat.reduceMul, hH]
    exact ⟨-1, rfl, .inl ⟨rfl, hn⟩⟩
theorem f60 {H : Hp} {v : Value} {l : List Ru} {k : Nat} {caps : Array Value} {p : Ru → Bool} (hl : SlR H v l) (hk : ∀ a w, SlI H w a.2.1 → Scal EE k ([vRu a w] ++ caps.toList) H (.bool (p a))) : Scal EE 60 [v, .func (.func k) #[] caps] H (.bool (l.any p)) := by
  refine scal_ok rfl rfl k60 (by simp [c60]) rfl fun m hw => ?_
  simp only [go_sem, ↓reduceIte, Nat.reduceEqDiff, reduceCtorEq, Nat.reduceAdd, Nat.reduceLeDiff, Nat.reduceMul, c60]
  refine callT_to (fun m' h => f62 hl hk m' h) rfl hw fun r H' ⟨⟨n, e, hn⟩, e2⟩ => ?_
  subst e; subst e2
  simp only [go_sem, ↓reduceIte, Nat.reduceEqDiff, reduceCtorEq, Nat.reduceAdd, Nat.reduceLeDiff, Nat.reduceMul, hn.any]
noncomputable def rulesOk (l : List Ru) : Bool := decide (l.length ≤ 20) && l.all rOk
theorem rules_t {l : List Ru} : rulesOk l = true ↔ l.length ≤ 20 ∧ ∀ a ∈ l, rOk a = true := by simp [rulesOk]
theorem rules_no {l : List Ru} (h : ¬ (l.length ≤ 20 ∧ ∀ a ∈ l, rOk a = true)) : rulesOk l = false := by
  cases h2 : rulesOk l with
  | false => rfl
  | true => exact absurd (rules_t.1 h2) h
theorem f56 {H : Hp} {v : Value} {l : List Ru} (hl : SlR H v l) : Scal EE 56 [v] H (.bool (rulesOk l)) := by
  refine scal_ok rfl rfl k56 (by simp [c56]) rfl fun m hw => ?_
  have hroom := hl.room
  have a60 := fun {m draw s d ts Q} => callT_at (m := m) (draw := draw) (s := s) (d := d) (ts := ts) (Q := Q) (f60 (k := 78) (caps := #[]) (p := fun a => !rOk a) hl (fun a w hs => f78 hs))
  simp only [go_sem, ↓reduceIte, Nat.reduceEqDiff, reduceCtorEq, Nat.reduceAdd, Nat.reduceLeDiff, Nat.reduceMul, c56, hl.len]
  cases q : decide ((l.length : Int) ≤ 20) <;> simp only [go_sem, ↓reduceIte, Nat.reduceEqDiff, reduceCtorEq, Nat.reduceAdd, Nat.reduceLeDiff, Nat.reduceMul, q, a60, hw]
  · rw [rules_no fun h => by have := h.1; have := of_decide_eq_false q; omega]
  · have h20 : decide (l.length ≤ 20) = true := decide_eq_true (by have := of_decide_eq_true q; omega)
    rw [show rulesOk l = !(l.any fun a => !rOk a) by unfold rulesOk; rw [h20, Bool.true_and, List.not_any_eq_all_not]; simp]
theorem f34 {H : Hp} {v : Value} {l : List Ru} (hl : SlR H v l) : Scal EE 34 [v] H (.bool (rulesOk l)) := by
  refine scal_ok rfl rfl k34 (by simp [c34]) rfl fun m hw => ?_
  have hroom := hl.room
  simp only [go_sem, ↓reduceIte, Nat.reduceEqDiff, reduceCtorEq, Nat.reduceAdd, Nat.reduceLeDiff, Nat.reduceMul, c34, hl.len]
  cases q0 : decide ((l.length : Int) > 20) <;> simp only [go_sem, ↓reduceIte, Nat.reduceEqDiff, reduceCtorEq, Nat.reduceAdd, Nat.reduceLeDiff, Nat.reduceMul, q0]
  rotate_left
  · rw [rules_no fun h => by have := h.1; have := of_decide_eq_true q0; omega]
  have h20 : l.length ≤ 20 := by have := of_decide_eq_false q0; omega
  refine go_for l.length (fun i s => s.H = H ∧ s.ρ 0 = .val v ∧ s.ρ 3 = .val (.int .i64 i) ∧ ∀ a ∈ l.take i, (!rOk a) = false)
    (fun s => s.H = H ∧ ∀ a ∈ l, (!rOk a) = false) (by simp [upd, ini]) ?_ ?_
  · rintro i s hi ⟨hH, k0, k3, hn⟩
    simp only [go_sem, ↓reduceIte, Nat.reduceEqDiff, reduceCtorEq, Nat.reduceAdd, Nat.reduceLeDiff, Nat.reduceMul, k0, k3, hl.len]
    cases c1 : decide ((i : Int) < (l.length : Int)) <;> simp only [go_sem, ↓reduceIte, Nat.reduceEqDiff, reduceCtorEq, Nat.reduceAdd, Nat.reduceLeDiff, Nat.reduceMul, k0, k3, c1]
    · have : i = l.length := by have := of_decide_eq_false c1; omega
      subst this
      rw [List.take_length] at hn
      exact ⟨hH, hn⟩
    have hil : i < l.length := by have := of_decide_eq_true c1; omega
    obtain ⟨id2, q, o2, ho, ⟨w, hr, hs⟩, hp, hia⟩ := hl.elem (List.getElem?_eq_getElem hil)
    have a68 := fun {m draw s d ts Q} => callT_at (m := m) (draw := draw) (s := s) (d := d) (ts := ts) (Q := Q) (f68 (a := l[i]) hs)
    have w1 := wrap64 ((i : Int) + 1) (by omega) (by omega)
    unfold vRu at a68
    simp only [go_sem, ↓reduceIte, Nat.reduceEqDiff, reduceCtorEq, Nat.reduceAdd, Nat.reduceLeDiff, Nat.reduceMul, k0, k3, hia, hH, ho, hr, hp, a68, hw]
    cases q2 : rOk l[i] <;> simp only [go_sem, ↓reduceIte, Nat.reduceEqDiff, reduceCtorEq, Nat.reduceAdd, Nat.reduceLeDiff, Nat.reduceMul, k0, k3, q2, w1]
    · rw [rules_no fun h => by have := h.2 _ (List.getElem_mem hil); rw [q2] at this; cases this]
    · exact ⟨hil, by simp, none_succ (p := fun a => !rOk a) hil hn (by simp [q2])⟩
  · rintro s ⟨hH, hn⟩
    simp only [go_sem, ↓reduceIte, Nat.reduceEqDiff, reduceCtorEq, Nat.reduceAdd, Nat.reduceLeDiff, Nat.reduceMul, hH]
    rw [rules_t.2 ⟨h20, fun a ha => by have := hn a ha; simpa using this⟩]

/-! Numbers in rows. -/
theorem f87 {H : Hp} {v : Value} {l : List Int} {h : Int} (hl : SlI H v l) : Scal EE 87 [v, .int .i64 h] H (.bool (decide (h ∈ l))) := by
  refine scal_ok rfl rfl k87 (by simp [c87]) rfl fun m hw => ?_
  have hroom := hl.room
  simp only [go_sem, ↓reduceIte, Nat.reduceEqDiff, reduceCtorEq, Nat.reduceAdd, Nat.reduceLeDiff, Nat.reduceMul, c87]
  refine go_for l.length (fun i s => s.H = H ∧ s.ρ 0 = .val v ∧ s.ρ 1 = .val (.int .i64 h) ∧ s.ρ 5 = .val (.int .i64 i) ∧ ∀ a ∈ l.take i, decide (a = h) = false) (fun s => s.H = H ∧ ∀ a ∈ l, decide (a = h) = false) (by simp [upd, ini]) ?_ ?_
  · rintro i s hi ⟨hH, h0, h3, h5, hn⟩
    simp only [go_sem, ↓reduceIte, Nat.reduceEqDiff, reduceCtorEq, Nat.reduceAdd, Nat.reduceLeDiff, Nat.reduceMul, h0, h3, h5, hl.len]
    refine brT.intro (fun h1 => ?_) (fun h1 => ?_) <;> simp only [go_sem, ↓reduceIte, Nat.reduceEqDiff, reduceCtorEq, Nat.reduceAdd, Nat.reduceLeDiff, Nat.reduceMul, h0, h3, h5]
    · have h2 : i < l.length := by simpa using h1
      obtain ⟨id, p, o, ho, hr, hia⟩ := hl.int (List.getElem?_eq_getElem h2)
      simp only [go_sem, ↓reduceIte, Nat.reduceEqDiff, reduceCtorEq, Nat.reduceAdd, Nat.reduceLeDiff, Nat.reduceMul, h0, h3, h5, hia, hH, ho, hr]
      cases q : decide (l[i] = h) <;> simp only [go_sem, ↓reduceIte, Nat.reduceEqDiff, reduceCtorEq, Nat.reduceAdd, Nat.reduceLeDiff, Nat.reduceMul, h0, h3, h5, q, wrap64 ((i : Int) + 1) (by omega) (by omega)]
      · exact ⟨h2, by simp, none_succ (p := fun a => decide (a = h)) h2 hn q⟩
      · rw [show decide (h ∈ l) = true from decide_eq_true (by rw [← of_decide_eq_true q]; exact List.getElem_mem h2)]
    · have h2 : ¬ i < l.length := by simpa using h1
      rw [List.take_of_length_le (by omega)] at hn
      exact ⟨hH, hn⟩
  · rintro s ⟨hH, hn⟩
    simp only [go_sem, ↓reduceIte, Nat.reduceEqDiff, reduceCtorEq, Nat.reduceAdd, Nat.reduceLeDiff, Nat.reduceMul, hH]
    rw [show decide (h ∈ l) = false from decide_eq_false fun hm => by have := hn h hm; simp at this]
theorem f94 {H : Hp} {v : Value} {l : List Int} {h : Int} (hl : SlI H v l) : ScalP EE 94 [v, .int .i64 h] H fun r => ∃ n : Int, r = .int .i64 n ∧ IdxR l (fun y => decide (h = y)) n := by
  refine scalP_ok rfl rfl k94 (by simp [c94]) fun m hw => ?_
  have hroom := hl.room
  simp only [go_sem, ↓reduceIte, Nat.reduceEqDiff, reduceCtorEq, Nat.reduceAdd, Nat.reduceLeDiff, Nat.reduceMul, c94, hl.len]
  refine go_for l.length (fun i s => s.H = H ∧ s.ρ 0 = .val v ∧ s.ρ 1 = .val (.int .i64 h) ∧ s.ρ 7 = .val (.int .i64 l.length) ∧ s.ρ 8 = .val (.int .i64 i) ∧ ∀ a ∈ l.take i, decide (h = a) = false) (fun s => s.H = H ∧ ∀ a ∈ l, decide (h = a) = false) (by simp [upd, ini]) ?_ ?_
  · rintro i s hi ⟨hH, k0, k1, k7, k8, hn⟩
    simp only [go_sem, ↓reduceIte, Nat.reduceEqDiff, reduceCtorEq, Nat.reduceAdd, Nat.reduceLeDiff, Nat.reduceMul, k0, k1, k7, k8]
    refine brT.intro (fun q1 => ?_) (fun q1 => ?_) <;> simp only [go_sem, ↓reduceIte, Nat.reduceEqDiff, reduceCtorEq, Nat.reduceAdd, Nat.reduceLeDiff, Nat.reduceMul, k0, k1, k7, k8]
    · have hil : i < l.length := by have := of_decide_eq_true q1; omega
      obtain ⟨id, p, o, ho, hr, hia⟩ := hl.int (List.getElem?_eq_getElem hil)
      simp only [go_sem, ↓reduceIte, Nat.reduceEqDiff, reduceCtorEq, Nat.reduceAdd, Nat.reduceLeDiff, Nat.reduceMul, k0, k1, k7, k8, hia, hH, ho, hr]
      cases q2 : decide (h = l[i]) <;> simp only [go_sem, ↓reduceIte, Nat.reduceEqDiff, reduceCtorEq, Nat.reduceAdd, Nat.reduceLeDiff, Nat.reduceMul, k0, k1, k7, k8, q2, wrap64 ((i : Int) + 1) (by omega) (by omega)]
      · exact ⟨hil, by simp, none_succ (p := fun a => decide (h = a)) hil hn q2⟩
      · exact ⟨_, rfl, .inr ⟨i, hil, rfl, q2, hn⟩⟩
    · have : i = l.length := by have := of_decide_eq_false q1; omega
      subst this
      rw [List.take_length] at hn
      exact ⟨hH, hn⟩
  · rintro s ⟨hH, hn⟩
    simp only [go_sem, ↓reduceIte, Nat.reduceEqDiff, reduceCtorEq, Nat.reduceAdd, Nat.reduceLeDiff, Nat.reduceMul, hH]
    exact ⟨-1, rfl, .inl ⟨rfl, hn⟩⟩
theorem f85 {H : Hp} {v : Value} {l : List Int} {h : Int} (hl : SlI H v l) : Scal EE 85 [v, .int .i64 h] H (.bool (decide (h ∈ l))) := by
  refine scal_ok rfl rfl k85 (by simp [c85]) rfl fun m hw => ?_
  simp only [go_sem, ↓reduceIte, Nat.reduceEqDiff, reduceCtorEq, Nat.reduceAdd, Nat.reduceLeDiff, Nat.reduceMul, c85]
  refine callT_to (fun m' h => f94 hl m' h) rfl hw fun r H' ⟨⟨n, e, hn⟩, e2⟩ => ?_
  subst e; subst e2
  simp only [go_sem, ↓reduceIte, Nat.reduceEqDiff, reduceCtorEq, Nat.reduceAdd, Nat.reduceLeDiff, Nat.reduceMul, hn.any]
  rw [show (l.any fun y => decide (h = y)) = decide (h ∈ l) by rw [Bool.eq_iff_iff]; simp]
/-- All of them in the other? -/
def subI (l k : List Int) : Bool := l.all fun x => decide (x ∈ k)
theorem f67 {H : Hp} {v u : Value} {l k : List Int} (hl : SlI H v l) (hk : SlI H u k) : Scal EE 67 [v, u] H (.bool (subI l k)) := by
  refine scal_ok rfl rfl k67 (by simp [c67]) rfl fun m hw => ?_
  have hroom := hl.room
  simp only [go_sem, ↓reduceIte, Nat.reduceEqDiff, reduceCtorEq, Nat.reduceAdd, Nat.reduceLeDiff, Nat.reduceMul, c67]
  refine go_for l.length (fun i s => s.H = H ∧ s.ρ 0 = .val v ∧ s.ρ 1 = .val u ∧ s.ρ 5 = .val (.int .i64 i) ∧ ∀ a ∈ l.take i, (!decide (a ∈ k)) = false) (fun s => s.H = H ∧ ∀ a ∈ l, (!decide (a ∈ k)) = false) (by simp [upd, ini]) ?_ ?_
  · rintro i s hi ⟨hH, h0, h1, h5, hn⟩
    simp only [go_sem, ↓reduceIte, Nat.reduceEqDiff, reduceCtorEq, Nat.reduceAdd, Nat.reduceLeDiff, Nat.reduceMul, h0, h1, h5, hl.len]
    refine brT.intro (fun q1 => ?_) (fun q1 => ?_) <;> simp only [go_sem, ↓reduceIte, Nat.reduceEqDiff, reduceCtorEq, Nat.reduceAdd, Nat.reduceLeDiff, Nat.reduceMul, h0, h1, h5]
    · have h2 : i < l.length := by simpa using q1
      obtain ⟨id, p, o, ho, hr, hia⟩ := hl.int (List.getElem?_eq_getElem h2)
      have a87 := fun {m draw s d ts Q} => callT_at (m := m) (draw := draw) (s := s) (d := d) (ts := ts) (Q := Q) (f87 (h := l[i]) hk)
      simp only [go_sem, ↓reduceIte, Nat.reduceEqDiff, reduceCtorEq, Nat.reduceAdd, Nat.reduceLeDiff, Nat.reduceMul, h0, h1, h5, hia, hH, ho, hr, a87, hw]
      cases q : decide (l[i] ∈ k) <;> simp only [go_sem, ↓reduceIte, Nat.reduceEqDiff, reduceCtorEq, Nat.reduceAdd, Nat.reduceLeDiff, Nat.reduceMul, h0, h1, h5, q, wrap64 ((i : Int) + 1) (by omega) (by omega)]
      · rw [show subI l k = false from List.all_eq_false.2 ⟨_, List.getElem_mem h2, by simp only [q]; simp⟩]
      · exact ⟨h2, by simp, none_succ (p := fun a => !decide (a ∈ k)) h2 hn (by simp only [q]; rfl)⟩
    · have h2 : ¬ i < l.length := by simpa using q1
      rw [List.take_of_length_le (by omega)] at hn
      exact ⟨hH, hn⟩
  · rintro s ⟨hH, hn⟩
    simp only [go_sem, ↓reduceIte, Nat.reduceEqDiff, reduceCtorEq, Nat.reduceAdd, Nat.reduceLeDiff, Nat.reduceMul, hH]
    rw [show subI l k = true from List.all_eq_true.2 fun a ha => by have := hn a ha; simpa using this]
theorem f93 {H : Hp} {v : Value} {l : List Int} {k : Nat} {caps : Array Value} {p : Int → Bool} (hl : SlI H v l) (hk : ∀ n, Scal EE k ([.int .i64 n] ++ caps.toList) H (.bool (p n))) : ScalP EE 93 [v, .func (.func k) #[] caps] H fun r => ∃ n : Int, r = .int .i64 n ∧ IdxR l p n := by
  refine scalP_ok rfl rfl k93 (by simp [c93]) fun m hw => ?_
  have hroom := hl.room
  simp only [go_sem, ↓reduceIte, Nat.reduceEqDiff, reduceCtorEq, Nat.reduceAdd, Nat.reduceLeDiff, Nat.reduceMul, c93, hl.len]
  refine go_for l.length (fun i s => s.H = H ∧ s.ρ 0 = .val v ∧ s.ρ 1 = .val (.func (.func k) #[] caps) ∧ s.ρ 7 = .val (.int .i64 l.length) ∧ s.ρ 8 = .val (.int .i64 i) ∧ ∀ a ∈ l.take i, p a = false) (fun s => s.H = H ∧ ∀ a ∈ l, p a = false) (by simp [upd, ini]) ?_ ?_
  · rintro i s hi ⟨hH, k0, k1, k7, k8, hn⟩
    simp only [go_sem, ↓reduceIte, Nat.reduceEqDiff, reduceCtorEq, Nat.reduceAdd, Nat.reduceLeDiff, Nat.reduceMul, k0, k1, k7, k8]
    refine brT.intro (fun q1 => ?_) (fun q1 => ?_) <;> simp only [go_sem, ↓reduceIte, Nat.reduceEqDiff, reduceCtorEq, Nat.reduceAdd, Nat.reduceLeDiff, Nat.reduceMul, k0, k1, k7, k8]
    · have hil : i < l.length := by have := of_decide_eq_true q1; omega
      obtain ⟨id, q, o, ho, hr, hia⟩ := hl.int (List.getElem?_eq_getElem hil)
      have ak := fun {m draw s d ts Q} => callT_at (m := m) (draw := draw) (s := s) (d := d) (ts := ts) (Q := Q) (hk l[i])
      simp only [List.singleton_append] at ak
      simp only [go_sem, ↓reduceIte, Nat.reduceEqDiff, reduceCtorEq, Nat.reduceAdd, Nat.reduceLeDiff, Nat.reduceMul, k0, k1, k7, k8, hia, hH, ho, hr, ak, hw]
      cases q2 : p l[i] <;> simp only [go_sem, ↓reduceIte, Nat.reduceEqDiff, reduceCtorEq, Nat.reduceAdd, Nat.reduceLeDiff, Nat.reduceMul, k0, k1, k7, k8, q2, wrap64 ((i : Int) + 1) (by omega) (by omega)]
      · exact ⟨hil, by simp, none_succ hil hn q2⟩
      · exact ⟨_, rfl, .inr ⟨i, hil, rfl, q2, hn⟩⟩
    · have : i = l.length := by have := of_decide_eq_false q1; omega
      subst this
      rw [List.take_length] at hn
      exact ⟨hH, hn⟩
  · rintro s ⟨hH, hn⟩
    simp only [go_sem, ↓reduceIte, Nat.reduceEqDiff, reduceCtorEq, Nat.reduceAdd, Nat.reduceLeDiff, Nat.reduceMul, hH]
    exact ⟨-1, rfl, .inl ⟨rfl, hn⟩⟩
theorem f83 {H : Hp} {v : Value} {l : List Int} {k : Nat} {caps : Array Value} {p : Int → Bool} (hl : SlI H v l) (hk : ∀ n, Scal EE k ([.int .i64 n] ++ caps.toList) H (.bool (p n))) : Scal EE 83 [v, .func (.func k) #[] caps] H (.bool (l.any p)) := by
  refine scal_ok rfl rfl k83 (by simp [c83]) rfl fun m hw => ?_
  simp only [go_sem, ↓reduceIte, Nat.reduceEqDiff, reduceCtorEq, Nat.reduceAdd, Nat.reduceLeDiff, Nat.reduceMul, c83]
  refine callT_to (fun m' h => f93 hl hk m' h) rfl hw fun r H' ⟨⟨n, e, hn⟩, e2⟩ => ?_
  subst e; subst e2
  simp only [go_sem, ↓reduceIte, Nat.reduceEqDiff, reduceCtorEq, Nat.reduceAdd, Nat.reduceLeDiff, Nat.reduceMul, hn.any]
theorem f84 {H : Hp} {n : Int} {u : Value} {k : List Int} {id : Nat} (hid : H[id]? = some [u]) (hk : SlI H u k) : Scal EE 84 [.int .i64 n, .pointer (some ⟨id, 0, some 1⟩)] H (.bool (!decide (n ∈ k))) := by
  refine scal_ok rfl rfl k84 (by simp [c84]) rfl fun m hw => ?_
  have a85 := fun {m draw s d ts Q} => callT_at (m := m) (draw := draw) (s := s) (d := d) (ts := ts) (Q := Q) (f85 (h := n) hk)
  simp only [go_sem, ↓reduceIte, Nat.reduceEqDiff, reduceCtorEq, Nat.reduceAdd, Nat.reduceLeDiff, Nat.reduceMul, c84, hid, a85, hw]
theorem sub_any {l k : List Int} : (!(l.any fun n => !decide (n ∈ k))) = subI l k := by
  unfold subI
  rw [List.not_any_eq_all_not]
  simp
theorem f64 {H : Hp} {v u : Value} {l k : List Int} (hl : SlI H v l) (hk : SlI H u k) : Scal EE 64 [v, u] H (.bool (subI l k)) := by
  refine scal_ok rfl rfl k64 (by simp [c64]) rfl fun m hw => ?_
  have pn : H <+: H ++ [[u]] := List.prefix_append _ _
  have a83 := fun {m draw s d ts Q} => callT_at (m := m) (draw := draw) (s := s) (d := d) (ts := ts) (Q := Q) (f83 (k := 84) (caps := #[.pointer (some ⟨H.length, 0, some 1⟩)]) (p := fun n => !decide (n ∈ k)) (hl.pre pn) (fun n => f84 (id := H.length) (by simp) (hk.pre pn)))
  simp only [go_sem, ↓reduceIte, Nat.reduceEqDiff, reduceCtorEq, Nat.reduceAdd, Nat.reduceLeDiff, Nat.reduceMul, c64, hk.vc, a83, hw.pre pn]
  rw [sub_any]
  exact ⟨rfl, pre_take pn⟩

/-! What a rule allows. -/
abbrev Ak := Int × Int × List Int × Int × Int
def vAk (x : Ak) (g : Value) : Value := .agg #[.int .i64 x.1, .int .i64 x.2.1, g, .int .i64 x.2.2.2.1, .int .i64 x.2.2.2.2]
def oneR (a : Ru) (x : Ak) : Bool := if a.1 = 1 then decide (x.1 ∈ a.2.1) else if a.1 = 2 then decide (x.2.1 ∈ a.2.1) else if a.1 = 3 then subI a.2.1 x.2.2.1 else if a.1 = 4 then decide (x.2.2.2.1 ≤ a.2.2) else decide (x.2.2.2.2 < a.2.2)
theorem f71 {H : Hp} {w g : Value} {a : Ru} {x : Ak} (hs : SlI H w a.2.1) (hg : SlI H g x.2.2.1) : Scal EE 71 [vRu a w, vAk x g] H (.bool (oneR a x)) := by
  refine scal_ok rfl rfl k71 (by simp [c71]) rfl fun m hw => ?_
  have a87 := fun {m draw s d ts Q} => callT_at (m := m) (draw := draw) (s := s) (d := d) (ts := ts) (Q := Q) (f87 (h := x.1) hs)
  have b87 := fun {m draw s d ts Q} => callT_at (m := m) (draw := draw) (s := s) (d := d) (ts := ts) (Q := Q) (f87 (h := x.2.1) hs)
  have a67 := fun {m draw s d ts Q} => callT_at (m := m) (draw := draw) (s := s) (d := d) (ts := ts) (Q := Q) (f67 hs hg)
  unfold vRu vAk
  simp only [go_sem, ↓reduceIte, Nat.reduceEqDiff, reduceCtorEq, Nat.reduceAdd, Nat.reduceLeDiff, Nat.reduceMul, c71]
  cases q1 : decide (a.1 = 1) <;> simp only [go_sem, ↓reduceIte, Nat.reduceEqDiff, reduceCtorEq, Nat.reduceAdd, Nat.reduceLeDiff, Nat.reduceMul, q1, a87, hw]
  rotate_left
  · rw [show oneR a x = decide (x.1 ∈ a.2.1) by unfold oneR; rw [if_pos (of_decide_eq_true q1)]]
  cases q2 : decide (a.1 = 2) <;> simp only [go_sem, ↓reduceIte, Nat.reduceEqDiff, reduceCtorEq, Nat.reduceAdd, Nat.reduceLeDiff, Nat.reduceMul, q2, b87, hw]
  rotate_left
  · rw [show oneR a x = decide (x.2.1 ∈ a.2.1) by unfold oneR; rw [if_neg (of_decide_eq_false q1), if_pos (of_decide_eq_true q2)]]
  cases q3 : decide (a.1 = 3) <;> simp only [go_sem, ↓reduceIte, Nat.reduceEqDiff, reduceCtorEq, Nat.reduceAdd, Nat.reduceLeDiff, Nat.reduceMul, q3, a67, hw]
  rotate_left
  · rw [show oneR a x = subI a.2.1 x.2.2.1 by unfold oneR; rw [if_neg (of_decide_eq_false q1), if_neg (of_decide_eq_false q2), if_pos (of_decide_eq_true q3)]]
  cases q4 : decide (a.1 = 4) <;> simp only [go_sem, ↓reduceIte, Nat.reduceEqDiff, reduceCtorEq, Nat.reduceAdd, Nat.reduceLeDiff, Nat.reduceMul, q4]
  · rw [show oneR a x = decide (x.2.2.2.2 < a.2.2) by unfold oneR; rw [if_neg (of_decide_eq_false q1), if_neg (of_decide_eq_false q2), if_neg (of_decide_eq_false q3), if_neg (of_decide_eq_false q4)]]
  · rw [show oneR a x = decide (x.2.2.2.1 ≤ a.2.2) by unfold oneR; rw [if_neg (of_decide_eq_false q1), if_neg (of_decide_eq_false q2), if_neg (of_decide_eq_false q3), if_pos (of_decide_eq_true q4)]]
theorem f89 {H : Hp} {n : Int} {x : Ak} {g : Value} {id : Nat} (hid : H[id]? = some [.int .i64 x.1, .int .i64 x.2.1, g, .int .i64 x.2.2.2.1, .int .i64 x.2.2.2.2]) (hg : SlI H g x.2.2.1) : Scal EE 89 [.int .i64 n, .pointer (some ⟨id, 0, some 5⟩)] H (.bool (!decide (n ∈ x.2.2.1))) := by
  refine scal_ok rfl rfl k89 (by simp [c89]) rfl fun m hw => ?_
  have a85 := fun {m draw s d ts Q} => callT_at (m := m) (draw := draw) (s := s) (d := d) (ts := ts) (Q := Q) (f85 (h := n) hg)
  simp only [go_sem, ↓reduceIte, Nat.reduceEqDiff, reduceCtorEq, Nat.reduceAdd, Nat.reduceLeDiff, Nat.reduceMul, c89, hid, a85, hw]
theorem f73 {H : Hp} {w g : Value} {a : Ru} {x : Ak} (hs : SlI H w a.2.1) (hg : SlI H g x.2.2.1) : Scal EE 73 [vRu a w, vAk x g] H (.bool (oneR a x)) := by
  refine scal_ok rfl rfl k73 (by simp [c73]) rfl fun m hw => ?_
  have pn : H <+: H ++ [[.int .i64 x.1, .int .i64 x.2.1, g, .int .i64 x.2.2.2.1, .int .i64 x.2.2.2.2]] := List.prefix_append _ _
  have hget : (H ++ [[.int .i64 x.1, .int .i64 x.2.1, g, .int .i64 x.2.2.2.1, .int .i64 x.2.2.2.2]])[H.length]? = some [.int .i64 x.1, .int .i64 x.2.1, g, .int .i64 x.2.2.2.1, .int .i64 x.2.2.2.2] := by simp
  have a85 := fun {m draw s d ts Q} => callT_at (m := m) (draw := draw) (s := s) (d := d) (ts := ts) (Q := Q) (f85 (h := x.1) (hs.pre pn))
  have b85 := fun {m draw s d ts Q} => callT_at (m := m) (draw := draw) (s := s) (d := d) (ts := ts) (Q := Q) (f85 (h := x.2.1) (hs.pre pn))
  have a83 := fun {m draw s d ts Q} => callT_at (m := m) (draw := draw) (s := s) (d := d) (ts := ts) (Q := Q) (f83 (k := 89) (caps := #[.pointer (some ⟨H.length, 0, some 5⟩)]) (p := fun n => !decide (n ∈ x.2.2.1)) (hs.pre pn) (fun n => f89 (x := x) (id := H.length) hget (hg.pre pn)))
  have hw2 := hw.pre pn
  unfold vRu vAk
  simp only [go_sem, ↓reduceIte, Nat.reduceEqDiff, reduceCtorEq, Nat.reduceAdd, Nat.reduceLeDiff, Nat.reduceMul, c73]
  cases q1 : decide (a.1 = 1) <;> simp only [go_sem, ↓reduceIte, Nat.reduceEqDiff, reduceCtorEq, Nat.reduceAdd, Nat.reduceLeDiff, Nat.reduceMul, q1, hget, a85, hw2]
  rotate_left
  · rw [show oneR a x = decide (x.1 ∈ a.2.1) by unfold oneR; rw [if_pos (of_decide_eq_true q1)]]
    exact ⟨rfl, pre_take pn⟩
  cases q2 : decide (a.1 = 2) <;> simp only [go_sem, ↓reduceIte, Nat.reduceEqDiff, reduceCtorEq, Nat.reduceAdd, Nat.reduceLeDiff, Nat.reduceMul, q2, hget, b85, hw2]
  rotate_left
  · rw [show oneR a x = decide (x.2.1 ∈ a.2.1) by unfold oneR; rw [if_neg (of_decide_eq_false q1), if_pos (of_decide_eq_true q2)]]
    exact ⟨rfl, pre_take pn⟩
  cases q3 : decide (a.1 = 3) <;> simp only [go_sem, ↓reduceIte, Nat.reduceEqDiff, reduceCtorEq, Nat.reduceAdd, Nat.reduceLeDiff, Nat.reduceMul, q3, a83, hw2]
  rotate_left
  · rw [sub_any, show oneR a x = subI a.2.1 x.2.2.1 by unfold oneR; rw [if_neg (of_decide_eq_false q1), if_neg (of_decide_eq_false q2), if_pos (of_decide_eq_true q3)]]
    exact ⟨rfl, pre_take pn⟩
  cases q4 : decide (a.1 = 4) <;> simp only [go_sem, ↓reduceIte, Nat.reduceEqDiff, reduceCtorEq, Nat.reduceAdd, Nat.reduceLeDiff, Nat.reduceMul, q4, hget]
  · rw [show oneR a x = decide (x.2.2.2.2 < a.2.2) by unfold oneR; rw [if_neg (of_decide_eq_false q1), if_neg (of_decide_eq_false q2), if_neg (of_decide_eq_false q3), if_neg (of_decide_eq_false q4)]]
    exact ⟨rfl, pre_take pn⟩
  · rw [show oneR a x = decide (x.2.2.2.1 ≤ a.2.2) by unfold oneR; rw [if_neg (of_decide_eq_false q1), if_neg (of_decide_eq_false q2), if_neg (of_decide_eq_false q3), if_pos (of_decide_eq_true q4)]]
    exact ⟨rfl, pre_take pn⟩
theorem f72 {H : Hp} {w g : Value} {a : Ru} {x : Ak} {id : Nat} (hid : H[id]? = some [.int .i64 x.1, .int .i64 x.2.1, g, .int .i64 x.2.2.2.1, .int .i64 x.2.2.2.2]) (hs : SlI H w a.2.1) (hg : SlI H g x.2.2.1) : Scal EE 72 [vRu a w, .pointer (some ⟨id, 0, some 5⟩)] H (.bool (!oneR a x)) := by
  refine scal_ok rfl rfl k72 (by simp [c72]) rfl fun m hw => ?_
  have a73 := fun {m draw s d ts Q} => callT_at (m := m) (draw := draw) (s := s) (d := d) (ts := ts) (Q := Q) (f73 hs hg)
  unfold vRu vAk at a73
  unfold vRu
  simp only [go_sem, ↓reduceIte, Nat.reduceEqDiff, reduceCtorEq, Nat.reduceAdd, Nat.reduceLeDiff, Nat.reduceMul, c72, hid, a73, hw]
/-- What rules allow. -/
noncomputable def allR (l : List Ru) (x : Ak) : Bool := rulesOk l && l.all (oneR · x)
theorem f39 {H : Hp} {v g : Value} {l : List Ru} {x : Ak} (hl : SlR H v l) (hg : SlI H g x.2.2.1) : Scal EE 39 [v, vAk x g] H (.bool (allR l x)) := by
  refine scal_ok rfl rfl k39 (by simp [c39]) rfl fun m hw => ?_
  have pn : H <+: H ++ [[.int .i64 x.1, .int .i64 x.2.1, g, .int .i64 x.2.2.2.1, .int .i64 x.2.2.2.2]] := List.prefix_append _ _
  have hget : (H ++ [[.int .i64 x.1, .int .i64 x.2.1, g, .int .i64 x.2.2.2.1, .int .i64 x.2.2.2.2]])[H.length]? = some [.int .i64 x.1, .int .i64 x.2.1, g, .int .i64 x.2.2.2.1, .int .i64 x.2.2.2.2] := by simp
  have hw2 := hw.pre pn
  have a56 := fun {m draw s d ts Q} => callT_at (m := m) (draw := draw) (s := s) (d := d) (ts := ts) (Q := Q) (f56 (hl.pre pn))
  have a60 := fun {m draw s d ts Q} => callT_at (m := m) (draw := draw) (s := s) (d := d) (ts := ts) (Q := Q) (f60 (k := 72) (caps := #[.pointer (some ⟨H.length, 0, some 5⟩)]) (p := fun a => !oneR a x) (hl.pre pn) (fun a w hs => f72 (id := H.length) hget hs (hg.pre pn)))
  unfold vAk
  simp only [go_sem, ↓reduceIte, Nat.reduceEqDiff, reduceCtorEq, Nat.reduceAdd, Nat.reduceLeDiff, Nat.reduceMul, c39, a56, hw2]
  cases q1 : rulesOk l <;> simp only [go_sem, ↓reduceIte, Nat.reduceEqDiff, reduceCtorEq, Nat.reduceAdd, Nat.reduceLeDiff, Nat.reduceMul, q1, a60, hw2]
  · rw [show allR l x = false by unfold allR; rw [q1]; rfl]
    exact ⟨rfl, pre_take pn⟩
  · rw [show allR l x = !(l.any fun a => !oneR a x) by unfold allR; rw [q1, Bool.true_and, List.not_any_eq_all_not]; simp]
    exact ⟨rfl, pre_take pn⟩
theorem f38 {H : Hp} {v g : Value} {l : List Ru} {x : Ak} (hl : SlR H v l) (hg : SlI H g x.2.2.1) : Scal EE 38 [v, vAk x g] H (.bool (allR l x)) := by
  refine scal_ok rfl rfl k38 (by simp [c38]) rfl fun m hw => ?_
  have hroom := hl.room
  have a34 := fun {m draw s d ts Q} => callT_at (m := m) (draw := draw) (s := s) (d := d) (ts := ts) (Q := Q) (f34 hl)
  unfold vAk
  simp only [go_sem, ↓reduceIte, Nat.reduceEqDiff, reduceCtorEq, Nat.reduceAdd, Nat.reduceLeDiff, Nat.reduceMul, c38, a34, hw]
  cases q1 : rulesOk l <;> simp only [go_sem, ↓reduceIte, Nat.reduceEqDiff, reduceCtorEq, Nat.reduceAdd, Nat.reduceLeDiff, Nat.reduceMul, q1]
  · rw [show allR l x = false by unfold allR; rw [q1]; rfl]
  refine go_for l.length (fun i s => s.H = H ∧ s.ρ 0 = .val v ∧ (∃ gn, s.ρ 3 = .bx gn [.int .i64 x.1, .int .i64 x.2.1, g, .int .i64 x.2.2.2.1, .int .i64 x.2.2.2.2]) ∧ s.ρ 5 = .val (.int .i64 i) ∧ ∀ a ∈ l.take i, (!oneR a x) = false)
    (fun s => s.H = H ∧ ∀ a ∈ l, (!oneR a x) = false) (by simp [upd, ini]) ?_ ?_
  · rintro i s hi ⟨hH, k0, ⟨gn, k3⟩, k5, hn⟩
    simp only [go_sem, ↓reduceIte, Nat.reduceEqDiff, reduceCtorEq, Nat.reduceAdd, Nat.reduceLeDiff, Nat.reduceMul, k0, k3, k5, hl.len]
    cases c1 : decide ((i : Int) < (l.length : Int)) <;> simp only [go_sem, ↓reduceIte, Nat.reduceEqDiff, reduceCtorEq, Nat.reduceAdd, Nat.reduceLeDiff, Nat.reduceMul, k0, k3, k5, c1]
    · have : i = l.length := by have := of_decide_eq_false c1; omega
      subst this
      rw [List.take_length] at hn
      exact ⟨hH, hn⟩
    have hil : i < l.length := by have := of_decide_eq_true c1; omega
    obtain ⟨id2, q, o2, ho, ⟨w, hr, hs⟩, hp, hia⟩ := hl.elem (List.getElem?_eq_getElem hil)
    have a71 := fun {m draw s d ts Q} => callT_at (m := m) (draw := draw) (s := s) (d := d) (ts := ts) (Q := Q) (f71 (a := l[i]) (x := x) hs hg)
    have w1 := wrap64 ((i : Int) + 1) (by omega) (by omega)
    unfold vRu vAk at a71
    refine go_draw ?_
    simp only [go_sem, ↓reduceIte, Nat.reduceEqDiff, reduceCtorEq, Nat.reduceAdd, Nat.reduceLeDiff, Nat.reduceMul, k0, k3, k5, hia, hH, ho, hr, hp, a71, hw]
    refine ⟨by rfl, ?_⟩
    cases q2 : oneR l[i] x <;> simp only [go_sem, ↓reduceIte, Nat.reduceEqDiff, reduceCtorEq, Nat.reduceAdd, Nat.reduceLeDiff, Nat.reduceMul, k0, k3, k5, q2, w1]
    · rw [show allR l x = false by unfold allR; rw [q1, Bool.true_and]; exact List.all_eq_false.2 ⟨_, List.getElem_mem hil, by rw [q2]; simp⟩]
    · exact ⟨hil, by simp, by simp, none_succ (p := fun a => !oneR a x) hil hn (by simp [q2])⟩
  · rintro s ⟨hH, hn⟩
    simp only [go_sem, ↓reduceIte, Nat.reduceEqDiff, reduceCtorEq, Nat.reduceAdd, Nat.reduceLeDiff, Nat.reduceMul, hH]
    rw [show allR l x = true by unfold allR; rw [q1, Bool.true_and]; exact List.all_eq_true.2 fun a ha => by have := hn a ha; simpa using this]
end Go.Proofs.Ytceilcdhflcbpaa.Ev

/- slices.Sort in this program: the shelf's contract. -/
namespace Go.Proofs.Ytceilcdhflcbpaa.Ev
set_option linter.all false
open Go Go.Shelf
def lays189_ren : Go.Shelf.Ren := ⟨fun | 189 => 99 | 125 => 102 | 257 => 101 | 128 => 112 | 129 => 113 | 294 => 103 | 295 => 104 | 296 => 105 | 297 => 106 | 298 => 107 | 299 => 108 | 216 => 109 | 300 => 110 | 301 => 111 | 328 => 114 | 329 => 115 | 330 => 116 | 331 => 117 | 332 => 118 | 215 => 119 | 343 => 120 | n => n, fun | 28 => 59 | 3 => 3 | 46 => 100 | 0 => 0 | 51 => 117 | 53 => 119 | 4 => 4 | 183 => 110 | 182 => 109 | 131 => 114 | 5 => 5 | 9 => 9 | 218 => 120 | 222 => 124 | 228 => 126 | 229 => 127 | n => n, fun | n => n⟩
theorem lays189 : Go.Proofs.Lays.n189 Try.prog lays189_ren where
  mixed := by kernel_rfl
  f125 := Try.func102.trans (congrArg some (by kernel_rfl))
  f128 := Try.func112.trans (congrArg some (by kernel_rfl))
  f129 := Try.func113.trans (congrArg some (by kernel_rfl))
  f189 := Try.func99.trans (congrArg some (by kernel_rfl))
  f215 := Try.func119.trans (congrArg some (by kernel_rfl))
  f216 := Try.func109.trans (congrArg some (by kernel_rfl))
  f257 := Try.func101.trans (congrArg some (by kernel_rfl))
  f294 := Try.func103.trans (congrArg some (by kernel_rfl))
  f295 := Try.func104.trans (congrArg some (by kernel_rfl))
  f296 := Try.func105.trans (congrArg some (by kernel_rfl))
  f297 := Try.func106.trans (congrArg some (by kernel_rfl))
  f298 := Try.func107.trans (congrArg some (by kernel_rfl))
  f299 := Try.func108.trans (congrArg some (by kernel_rfl))
  f300 := Try.func110.trans (congrArg some (by kernel_rfl))
  f301 := Try.func111.trans (congrArg some (by kernel_rfl))
  f328 := Try.func114.trans (congrArg some (by kernel_rfl))
  f329 := Try.func115.trans (congrArg some (by kernel_rfl))
  f330 := Try.func116.trans (congrArg some (by kernel_rfl))
  f331 := Try.func117.trans (congrArg some (by kernel_rfl))
  f332 := Try.func118.trans (congrArg some (by kernel_rfl))
  f343 := Try.func120.trans (congrArg some (by kernel_rfl))
  t0 := Try.underlying0
  a0 := Try.isAgg0
  z0 := Try.sizeOf0
  v0 := Try.zeroValue0
  t3 := Try.underlying3
  a3 := Try.isAgg3
  z3 := Try.sizeOf3
  v3 := Try.zeroValue3
  t4 := Try.underlying4
  a4 := Try.isAgg4
  z4 := Try.sizeOf4
  v4 := Try.zeroValue4
  t5 := Try.underlying5
  a5 := Try.isAgg5
  z5 := Try.sizeOf5
  v5 := Try.zeroValue5
  t9 := Try.underlying9
  a9 := Try.isAgg9
  z9 := Try.sizeOf9
  v9 := Try.zeroValue9
  t28 := Try.underlying59
  a28 := Try.isAgg59
  z28 := Try.sizeOf59
  v28 := Try.zeroValue59
  t46 := Try.underlying100
  a46 := Try.isAgg100
  z46 := Try.sizeOf100
  v46 := Try.zeroValue100
  t51 := Try.underlying117
  a51 := Try.isAgg117
  z51 := Try.sizeOf117
  v51 := Try.zeroValue117
  t53 := Try.underlying119
  a53 := Try.isAgg119
  z53 := Try.sizeOf119
  v53 := Try.zeroValue119
  t131 := Try.underlying114
  a131 := Try.isAgg114
  z131 := Try.sizeOf114
  v131 := Try.zeroValue114
  t182 := Try.underlying109
  a182 := Try.isAgg109
  z182 := Try.sizeOf109
  v182 := Try.zeroValue109
  t183 := Try.underlying110
  a183 := Try.isAgg110
  z183 := Try.sizeOf110
  v183 := Try.zeroValue110
  t218 := Try.underlying120
  a218 := Try.isAgg120
  z218 := Try.sizeOf120
  v218 := Try.zeroValue120
  t222 := Try.underlying124
  a222 := Try.isAgg124
  z222 := Try.sizeOf124
  v222 := Try.zeroValue124
  t228 := Try.underlying126
  a228 := Try.isAgg126
  z228 := Try.sizeOf126
  v228 := Try.zeroValue126
  t229 := Try.underlying127
  a229 := Try.isAgg127
  z229 := Try.sizeOf127
  v229 := Try.zeroValue127
theorem sortOk : SortOk Try.prog 99 :=
  ⟨⟨Try.f99, Try.func99, rfl, by kernel_rfl⟩, fun blk off cap zs w h hb hl => Any.slices_Sort_int lays189 blk off cap zs w h hb hl, fun p cap w => Any.slices_Sort_int_none lays189 p cap w⟩
end Go.Proofs.Ytceilcdhflcbpaa.Ev

/- The calls that are told by themselves: slices.Sort alone. -/
namespace Go.Proofs.Ytceilcdhflcbpaa.Ev
set_option linter.all false
open Go
theorem prim_EE : ∀ f p, EE.prim f = some p → f = 99 ∧ p = sortP := fun f p h => by
  have h : (if f = 99 then some sortP else none) = some p := h
  split at h
  · rename_i e; exact ⟨e, (Option.some.inj h).symm⟩
  · cases h
end Go.Proofs.Ytceilcdhflcbpaa.Ev
