/- Texts of this proof, laid one behind the other: what each shows stands at its head. -/
import Derived.Test.YtokicdkdllndpaaB4
import Derived.Test.YtokicdkdllndpaaB3
/- Stores: right ones, their texts. -/
namespace Go.Proofs.Ytokicdkdllndpaa.Ev
set_option linter.all false
open Go
set_option maxRecDepth 4000

abbrev Rw := Int × Int × Int × Bool
def eRw (z : Rw) : List Value := [.int .i64 z.1, .int .i64 z.2.1, .int .i64 z.2.2.1, .bool z.2.2.2]
def vRw (z : Rw) : Value := .agg #[.int .i64 z.1, .int .i64 z.2.1, .int .i64 z.2.2.1, .bool z.2.2.2]
abbrev SlRw (H : Hp) (v : Value) (l : List Rw) : Prop := Sl (En eRw) 4 H v l
def rowOkB (z : Rw) : Bool := (decide (z.1 ≥ 0) && decide (z.1 ≤ 99)) && ((decide (z.2.1 ≥ 1) && decide (z.2.1 ≤ 1000000)) && (decide (z.2.2.1 ≥ 1) && decide (z.2.2.1 ≤ 100000)))
theorem rowOk_t {z : Rw} : rowOkB z = true ↔ (0 ≤ z.1 ∧ z.1 ≤ 99) ∧ (1 ≤ z.2.1 ∧ z.2.1 ≤ 1000000) ∧ 1 ≤ z.2.2.1 ∧ z.2.2.1 ≤ 100000 := by simp [rowOkB]

theorem f99 {H : Hp} {a : Int} : Scal EE 99 [.int .i64 a] H (.bool (decide (a ≥ 0) && decide (a ≤ 99))) := by
  refine scal_ok rfl rfl k99 (by simp [c99]) rfl fun m hw => ?_
  simp only [Zaa, Zab, Zac, Zad, Zae, Zaf, Zag, Zah, Zai, go_r, Zaj, go_d, Zak, go_e, box2, Option.isSome_some, Nat.le_refl, Zal, go_o, go_g, Zam, Zan, Zao, Zap, Zaq, Zar, Zas, Zat, Zau, Zav, stp, Zaw, movK, mv1, ex, exv, exvs, Zax, Zay, ini, St.val, binK, binV, ofV, Zaz, unK, unV, beqK, beq_true, beq_false, if_true, if_false, List.getElem?_cons_zero, List.getElem?_cons_succ, ↓reduceIte, Nat.reduceEqDiff, reduceCtorEq, Za0, adr, Za1, Ad.fv, Ad.live, Za2, List.length_cons, List.length_nil, List.drop_zero, List.drop_succ_cons, List.take_succ_cons, List.take_zero, Nat.reduceAdd, Nat.reduceLeDiff, Nat.zero_add, Nat.add_zero, aeqK, agEq, scEq, Za3, Za4, exc, Za5, Za6, Za7, Za8, Za9, Zba, Zbb, Zbc, Zbd, List.reverse_cons, List.reverse_nil, List.nil_append, List.cons_append, extK, Bool.and_true, Bool.true_and, Bool.not_true, Bool.not_false, resT, Zbe, resV, true_and, and_true, Zbf, Zbg, Zbh, Zbi, Zbj, Zbk, Zbl, Zbm, Zbn, Zbo, Zbp, Zbq, Zbr, Zbs, Zbt, implies_true, Bool.and_self, Zbu, Zbv, Zbw, Zbx, Zby, Zbz, Zb0, Zb1, Zb2, List.take_length, decide_true, decide_false, Option.some.injEq, Value.bool.injEq, Value.int.injEq, Bool.false_and, Bool.and_false, not_false_eq_true, not_true_eq_false, Zb3, List.length_set, Nat.reduceMul, Bool.not_eq_true, Bool.not_eq_false, List.all_cons, List.all_nil, exps, Zb4, Zb5, strK, Zb6, fnK, Zb7, List.size_toArray, List.append_nil, List.singleton_append, Zb8, Zb9, Zbt, List.isEmpty_nil, List.isEmpty_cons, mkVK, mkOK, Zca, Zcb, Zcc, Zcd, Zce, Zcf, List.map_cons, List.map_nil, c99, c101', hw]
theorem f62 {H : Hp} {a : Int} : Scal EE 62 [.int .i64 a] H (.bool (decide (a ≥ 0) && decide (a ≤ 100000))) := by
  refine scal_ok rfl rfl k62 (by simp [c62]) rfl fun m hw => ?_
  simp only [Zaa, Zab, Zac, Zad, Zae, Zaf, Zag, Zah, Zai, go_r, Zaj, go_d, Zak, go_e, box2, Option.isSome_some, Nat.le_refl, Zal, go_o, go_g, Zam, Zan, Zao, Zap, Zaq, Zar, Zas, Zat, Zau, Zav, stp, Zaw, movK, mv1, ex, exv, exvs, Zax, Zay, ini, St.val, binK, binV, ofV, Zaz, unK, unV, beqK, beq_true, beq_false, if_true, if_false, List.getElem?_cons_zero, List.getElem?_cons_succ, ↓reduceIte, Nat.reduceEqDiff, reduceCtorEq, Za0, adr, Za1, Ad.fv, Ad.live, Za2, List.length_cons, List.length_nil, List.drop_zero, List.drop_succ_cons, List.take_succ_cons, List.take_zero, Nat.reduceAdd, Nat.reduceLeDiff, Nat.zero_add, Nat.add_zero, aeqK, agEq, scEq, Za3, Za4, exc, Za5, Za6, Za7, Za8, Za9, Zba, Zbb, Zbc, Zbd, List.reverse_cons, List.reverse_nil, List.nil_append, List.cons_append, extK, Bool.and_true, Bool.true_and, Bool.not_true, Bool.not_false, resT, Zbe, resV, true_and, and_true, Zbf, Zbg, Zbh, Zbi, Zbj, Zbk, Zbl, Zbm, Zbn, Zbo, Zbp, Zbq, Zbr, Zbs, Zbt, implies_true, Bool.and_self, Zbu, Zbv, Zbw, Zbx, Zby, Zbz, Zb0, Zb1, Zb2, List.take_length, decide_true, decide_false, Option.some.injEq, Value.bool.injEq, Value.int.injEq, Bool.false_and, Bool.and_false, not_false_eq_true, not_true_eq_false, Zb3, List.length_set, Nat.reduceMul, Bool.not_eq_true, Bool.not_eq_false, List.all_cons, List.all_nil, exps, Zb4, Zb5, strK, Zb6, fnK, Zb7, List.size_toArray, List.append_nil, List.singleton_append, Zb8, Zb9, Zbt, List.isEmpty_nil, List.isEmpty_cons, mkVK, mkOK, Zca, Zcb, Zcc, Zcd, Zce, Zcf, List.map_cons, List.map_nil, c62, c101', hw]
theorem c99' {m : Md} {draw : Bool} {s : St} {d : Option Nat} {ts : List Tk} {Q : Ex → St → Prop} {a : Int} (hw : Wr m s.H) :
    callT EE m draw 99 (some [.int .i64 a]) s d ts Q = go EE m ts { s with ρ := upd s.ρ d (.val (.bool (decide (a ≥ 0) && decide (a ≤ 99)))) } Q := callT_at f99 rfl hw
theorem c62' {m : Md} {draw : Bool} {s : St} {d : Option Nat} {ts : List Tk} {Q : Ex → St → Prop} {a : Int} (hw : Wr m s.H) :
    callT EE m draw 62 (some [.int .i64 a]) s d ts Q = go EE m ts { s with ρ := upd s.ρ d (.val (.bool (decide (a ≥ 0) && decide (a ≤ 100000)))) } Q := callT_at f62 rfl hw
theorem f59 {H : Hp} {z : Rw} : Scal EE 59 [vRw z] H (.bool (rowOkB z)) := by
  refine scal_ok rfl rfl k59 (by simp [c59]) rfl fun m hw => ?_
  unfold vRw rowOkB
  simp only [Zaa, Zab, Zac, Zad, Zae, Zaf, Zag, Zah, Zai, go_r, Zaj, go_d, Zak, go_e, box2, Option.isSome_some, Nat.le_refl, Zal, go_o, go_g, Zam, Zan, Zao, Zap, Zaq, Zar, Zas, Zat, Zau, Zav, stp, Zaw, movK, mv1, ex, exv, exvs, Zax, Zay, ini, St.val, binK, binV, ofV, Zaz, unK, unV, beqK, beq_true, beq_false, if_true, if_false, List.getElem?_cons_zero, List.getElem?_cons_succ, ↓reduceIte, Nat.reduceEqDiff, reduceCtorEq, Za0, adr, Za1, Ad.fv, Ad.live, Za2, List.length_cons, List.length_nil, List.drop_zero, List.drop_succ_cons, List.take_succ_cons, List.take_zero, Nat.reduceAdd, Nat.reduceLeDiff, Nat.zero_add, Nat.add_zero, aeqK, agEq, scEq, Za3, Za4, exc, Za5, Za6, Za7, Za8, Za9, Zba, Zbb, Zbc, Zbd, List.reverse_cons, List.reverse_nil, List.nil_append, List.cons_append, extK, Bool.and_true, Bool.true_and, Bool.not_true, Bool.not_false, resT, Zbe, resV, true_and, and_true, Zbf, Zbg, Zbh, Zbi, Zbj, Zbk, Zbl, Zbm, Zbn, Zbo, Zbp, Zbq, Zbr, Zbs, Zbt, implies_true, Bool.and_self, Zbu, Zbv, Zbw, Zbx, Zby, Zbz, Zb0, Zb1, Zb2, List.take_length, decide_true, decide_false, Option.some.injEq, Value.bool.injEq, Value.int.injEq, Bool.false_and, Bool.and_false, not_false_eq_true, not_true_eq_false, Zb3, List.length_set, Nat.reduceMul, Bool.not_eq_true, Bool.not_eq_false, List.all_cons, List.all_nil, exps, Zb4, Zb5, strK, Zb6, fnK, Zb7, List.size_toArray, List.append_nil, List.singleton_append, Zb8, Zb9, Zbt, List.isEmpty_nil, List.isEmpty_cons, mkVK, mkOK, Zca, Zcb, Zcc, Zcd, Zce, Zcf, List.map_cons, List.map_nil, c59, c58', hw]
  refine brT.intro (fun h1 => ?_) (fun h1 => ?_) <;> simp only [Zaa, Zab, Zac, Zad, Zae, Zaf, Zag, Zah, Zai, go_r, Zaj, go_d, Zak, go_e, box2, Option.isSome_some, Nat.le_refl, Zal, go_o, go_g, Zam, Zan, Zao, Zap, Zaq, Zar, Zas, Zat, Zau, Zav, stp, Zaw, movK, mv1, ex, exv, exvs, Zax, Zay, ini, St.val, binK, binV, ofV, Zaz, unK, unV, beqK, beq_true, beq_false, if_true, if_false, List.getElem?_cons_zero, List.getElem?_cons_succ, ↓reduceIte, Nat.reduceEqDiff, reduceCtorEq, Za0, adr, Za1, Ad.fv, Ad.live, Za2, List.length_cons, List.length_nil, List.drop_zero, List.drop_succ_cons, List.take_succ_cons, List.take_zero, Nat.reduceAdd, Nat.reduceLeDiff, Nat.zero_add, Nat.add_zero, aeqK, agEq, scEq, Za3, Za4, exc, Za5, Za6, Za7, Za8, Za9, Zba, Zbb, Zbc, Zbd, List.reverse_cons, List.reverse_nil, List.nil_append, List.cons_append, extK, Bool.and_true, Bool.true_and, Bool.not_true, Bool.not_false, resT, Zbe, resV, true_and, and_true, Zbf, Zbg, Zbh, Zbi, Zbj, Zbk, Zbl, Zbm, Zbn, Zbo, Zbp, Zbq, Zbr, Zbs, Zbt, implies_true, Bool.and_self, Zbu, Zbv, Zbw, Zbx, Zby, Zbz, Zb0, Zb1, Zb2, List.take_length, decide_true, decide_false, Option.some.injEq, Value.bool.injEq, Value.int.injEq, Bool.false_and, Bool.and_false, not_false_eq_true, not_true_eq_false, Zb3, List.length_set, Nat.reduceMul, Bool.not_eq_true, Bool.not_eq_false, List.all_cons, List.all_nil, exps, Zb4, Zb5, strK, Zb6, fnK, Zb7, List.size_toArray, List.append_nil, List.singleton_append, Zb8, Zb9, Zbt, List.isEmpty_nil, List.isEmpty_cons, mkVK, mkOK, Zca, Zcb, Zcc, Zcd, Zce, Zcf, List.map_cons, List.map_nil, h1, c58', hw]
  refine brT.intro (fun h2 => ?_) (fun h2 => ?_) <;> simp only [Zaa, Zab, Zac, Zad, Zae, Zaf, Zag, Zah, Zai, go_r, Zaj, go_d, Zak, go_e, box2, Option.isSome_some, Nat.le_refl, Zal, go_o, go_g, Zam, Zan, Zao, Zap, Zaq, Zar, Zas, Zat, Zau, Zav, stp, Zaw, movK, mv1, ex, exv, exvs, Zax, Zay, ini, St.val, binK, binV, ofV, Zaz, unK, unV, beqK, beq_true, beq_false, if_true, if_false, List.getElem?_cons_zero, List.getElem?_cons_succ, ↓reduceIte, Nat.reduceEqDiff, reduceCtorEq, Za0, adr, Za1, Ad.fv, Ad.live, Za2, List.length_cons, List.length_nil, List.drop_zero, List.drop_succ_cons, List.take_succ_cons, List.take_zero, Nat.reduceAdd, Nat.reduceLeDiff, Nat.zero_add, Nat.add_zero, aeqK, agEq, scEq, Za3, Za4, exc, Za5, Za6, Za7, Za8, Za9, Zba, Zbb, Zbc, Zbd, List.reverse_cons, List.reverse_nil, List.nil_append, List.cons_append, extK, Bool.and_true, Bool.true_and, Bool.not_true, Bool.not_false, resT, Zbe, resV, true_and, and_true, Zbf, Zbg, Zbh, Zbi, Zbj, Zbk, Zbl, Zbm, Zbn, Zbo, Zbp, Zbq, Zbr, Zbs, Zbt, implies_true, Bool.and_self, Zbu, Zbv, Zbw, Zbx, Zby, Zbz, Zb0, Zb1, Zb2, List.take_length, decide_true, decide_false, Option.some.injEq, Value.bool.injEq, Value.int.injEq, Bool.false_and, Bool.and_false, not_false_eq_true, not_true_eq_false, Zb3, List.length_set, Nat.reduceMul, Bool.not_eq_true, Bool.not_eq_false, List.all_cons, List.all_nil, exps, Zb4, Zb5, strK, Zb6, fnK, Zb7, List.size_toArray, List.append_nil, List.singleton_append, Zb8, Zb9, Zbt, List.isEmpty_nil, List.isEmpty_cons, mkVK, mkOK, Zca, Zcb, Zcc, Zcd, Zce, Zcf, List.map_cons, List.map_nil, h1, h2, c58', hw]
theorem f61 {H : Hp} {z : Rw} : Scal EE 61 [vRw z] H (.bool (rowOkB z)) := by
  refine scal_ok rfl rfl k61 (by simp [c61]) rfl fun m hw => ?_
  unfold vRw rowOkB
  simp only [Zaa, Zab, Zac, Zad, Zae, Zaf, Zag, Zah, Zai, go_r, Zaj, go_d, Zak, go_e, box2, Option.isSome_some, Nat.le_refl, Zal, go_o, go_g, Zam, Zan, Zao, Zap, Zaq, Zar, Zas, Zat, Zau, Zav, stp, Zaw, movK, mv1, ex, exv, exvs, Zax, Zay, ini, St.val, binK, binV, ofV, Zaz, unK, unV, beqK, beq_true, beq_false, if_true, if_false, List.getElem?_cons_zero, List.getElem?_cons_succ, ↓reduceIte, Nat.reduceEqDiff, reduceCtorEq, Za0, adr, Za1, Ad.fv, Ad.live, Za2, List.length_cons, List.length_nil, List.drop_zero, List.drop_succ_cons, List.take_succ_cons, List.take_zero, Nat.reduceAdd, Nat.reduceLeDiff, Nat.zero_add, Nat.add_zero, aeqK, agEq, scEq, Za3, Za4, exc, Za5, Za6, Za7, Za8, Za9, Zba, Zbb, Zbc, Zbd, List.reverse_cons, List.reverse_nil, List.nil_append, List.cons_append, extK, Bool.and_true, Bool.true_and, Bool.not_true, Bool.not_false, resT, Zbe, resV, true_and, and_true, Zbf, Zbg, Zbh, Zbi, Zbj, Zbk, Zbl, Zbm, Zbn, Zbo, Zbp, Zbq, Zbr, Zbs, Zbt, implies_true, Bool.and_self, Zbu, Zbv, Zbw, Zbx, Zby, Zbz, Zb0, Zb1, Zb2, List.take_length, decide_true, decide_false, Option.some.injEq, Value.bool.injEq, Value.int.injEq, Bool.false_and, Bool.and_false, not_false_eq_true, not_true_eq_false, Zb3, List.length_set, Nat.reduceMul, Bool.not_eq_true, Bool.not_eq_false, List.all_cons, List.all_nil, exps, Zb4, Zb5, strK, Zb6, fnK, Zb7, List.size_toArray, List.append_nil, List.singleton_append, Zb8, Zb9, Zbt, List.isEmpty_nil, List.isEmpty_cons, mkVK, mkOK, Zca, Zcb, Zcc, Zcd, Zce, Zcf, List.map_cons, List.map_nil, c61, c101', c99', c100', hw, isKey]
  refine brT.intro (fun h1 => ?_) (fun h1 => ?_) <;> simp only [Zaa, Zab, Zac, Zad, Zae, Zaf, Zag, Zah, Zai, go_r, Zaj, go_d, Zak, go_e, box2, Option.isSome_some, Nat.le_refl, Zal, go_o, go_g, Zam, Zan, Zao, Zap, Zaq, Zar, Zas, Zat, Zau, Zav, stp, Zaw, movK, mv1, ex, exv, exvs, Zax, Zay, ini, St.val, binK, binV, ofV, Zaz, unK, unV, beqK, beq_true, beq_false, if_true, if_false, List.getElem?_cons_zero, List.getElem?_cons_succ, ↓reduceIte, Nat.reduceEqDiff, reduceCtorEq, Za0, adr, Za1, Ad.fv, Ad.live, Za2, List.length_cons, List.length_nil, List.drop_zero, List.drop_succ_cons, List.take_succ_cons, List.take_zero, Nat.reduceAdd, Nat.reduceLeDiff, Nat.zero_add, Nat.add_zero, aeqK, agEq, scEq, Za3, Za4, exc, Za5, Za6, Za7, Za8, Za9, Zba, Zbb, Zbc, Zbd, List.reverse_cons, List.reverse_nil, List.nil_append, List.cons_append, extK, Bool.and_true, Bool.true_and, Bool.not_true, Bool.not_false, resT, Zbe, resV, true_and, and_true, Zbf, Zbg, Zbh, Zbi, Zbj, Zbk, Zbl, Zbm, Zbn, Zbo, Zbp, Zbq, Zbr, Zbs, Zbt, implies_true, Bool.and_self, Zbu, Zbv, Zbw, Zbx, Zby, Zbz, Zb0, Zb1, Zb2, List.take_length, decide_true, decide_false, Option.some.injEq, Value.bool.injEq, Value.int.injEq, Bool.false_and, Bool.and_false, not_false_eq_true, not_true_eq_false, Zb3, List.length_set, Nat.reduceMul, Bool.not_eq_true, Bool.not_eq_false, List.all_cons, List.all_nil, exps, Zb4, Zb5, strK, Zb6, fnK, Zb7, List.size_toArray, List.append_nil, List.singleton_append, Zb8, Zb9, Zbt, List.isEmpty_nil, List.isEmpty_cons, mkVK, mkOK, Zca, Zcb, Zcc, Zcd, Zce, Zcf, List.map_cons, List.map_nil, h1, c101', c99', c100', hw, isKey]
  refine brT.intro (fun h2 => ?_) (fun h2 => ?_) <;> simp only [Zaa, Zab, Zac, Zad, Zae, Zaf, Zag, Zah, Zai, go_r, Zaj, go_d, Zak, go_e, box2, Option.isSome_some, Nat.le_refl, Zal, go_o, go_g, Zam, Zan, Zao, Zap, Zaq, Zar, Zas, Zat, Zau, Zav, stp, Zaw, movK, mv1, ex, exv, exvs, Zax, Zay, ini, St.val, binK, binV, ofV, Zaz, unK, unV, beqK, beq_true, beq_false, if_true, if_false, List.getElem?_cons_zero, List.getElem?_cons_succ, ↓reduceIte, Nat.reduceEqDiff, reduceCtorEq, Za0, adr, Za1, Ad.fv, Ad.live, Za2, List.length_cons, List.length_nil, List.drop_zero, List.drop_succ_cons, List.take_succ_cons, List.take_zero, Nat.reduceAdd, Nat.reduceLeDiff, Nat.zero_add, Nat.add_zero, aeqK, agEq, scEq, Za3, Za4, exc, Za5, Za6, Za7, Za8, Za9, Zba, Zbb, Zbc, Zbd, List.reverse_cons, List.reverse_nil, List.nil_append, List.cons_append, extK, Bool.and_true, Bool.true_and, Bool.not_true, Bool.not_false, resT, Zbe, resV, true_and, and_true, Zbf, Zbg, Zbh, Zbi, Zbj, Zbk, Zbl, Zbm, Zbn, Zbo, Zbp, Zbq, Zbr, Zbs, Zbt, implies_true, Bool.and_self, Zbu, Zbv, Zbw, Zbx, Zby, Zbz, Zb0, Zb1, Zb2, List.take_length, decide_true, decide_false, Option.some.injEq, Value.bool.injEq, Value.int.injEq, Bool.false_and, Bool.and_false, not_false_eq_true, not_true_eq_false, Zb3, List.length_set, Nat.reduceMul, Bool.not_eq_true, Bool.not_eq_false, List.all_cons, List.all_nil, exps, Zb4, Zb5, strK, Zb6, fnK, Zb7, List.size_toArray, List.append_nil, List.singleton_append, Zb8, Zb9, Zbt, List.isEmpty_nil, List.isEmpty_cons, mkVK, mkOK, Zca, Zcb, Zcc, Zcd, Zce, Zcf, List.map_cons, List.map_nil, h1, h2, c101', c99', c100', hw, isKey]
theorem c59' {m : Md} {draw : Bool} {s : St} {d : Option Nat} {ts : List Tk} {Q : Ex → St → Prop} {a b c : Int} {o : Bool} (hw : Wr m s.H) :
    callT EE m draw 59 (some [.agg #[.int .i64 a, .int .i64 b, .int .i64 c, .bool o]]) s d ts Q = go EE m ts { s with ρ := upd s.ρ d (.val (.bool (rowOkB (a, b, c, o)))) } Q := callT_at (f59 (z := (a, b, c, o))) rfl hw
theorem c61' {m : Md} {draw : Bool} {s : St} {d : Option Nat} {ts : List Tk} {Q : Ex → St → Prop} {a b c : Int} {o : Bool} (hw : Wr m s.H) :
    callT EE m draw 61 (some [.agg #[.int .i64 a, .int .i64 b, .int .i64 c, .bool o]]) s d ts Q = go EE m ts { s with ρ := upd s.ρ d (.val (.bool (rowOkB (a, b, c, o)))) } Q := callT_at (f61 (z := (a, b, c, o))) rfl hw

/-- A row that is right, behind the one ahead of it. -/
def RowAt (l : List Rw) (i : Nat) : Prop := ∀ z, l[i]? = some z → rowOkB z = true ∧ ∀ z', 0 < i → l[i - 1]? = some z' → z'.1 < z.1
def BsOk (q : Int) (l : List Rw) : Prop := l.length ≤ 12 ∧ (0 ≤ q ∧ q ≤ 100000) ∧ ∀ i, i < l.length → RowAt l i
open Classical in
noncomputable def bsOk (q : Int) (l : List Rw) : Bool := decide (BsOk q l)
theorem bsOk_t {q : Int} {l : List Rw} : bsOk q l = true ↔ BsOk q l := by unfold bsOk; simp
theorem bsOk_yes {q : Int} {l : List Rw} (h : BsOk q l) : bsOk q l = true := bsOk_t.2 h
theorem bsOk_no {q : Int} {l : List Rw} (h : ¬ BsOk q l) : bsOk q l = false := by
  cases h2 : bsOk q l with
  | false => rfl
  | true => exact absurd (bsOk_t.1 h2) h
theorem rowAt_at {l : List Rw} {i : Nat} (hi : i < l.length) : RowAt l i ↔ rowOkB l[i] = true ∧ ∀ h : 0 < i, (l[i - 1]'(by omega)).1 < l[i].1 := by
  unfold RowAt
  constructor
  · intro h
    obtain ⟨h1, h2⟩ := h _ (List.getElem?_eq_getElem hi)
    exact ⟨h1, fun h0 => h2 _ h0 (List.getElem?_eq_getElem (by omega))⟩
  · rintro ⟨h1, h2⟩ row hr
    rw [List.getElem?_eq_getElem hi] at hr
    cases hr
    refine ⟨h1, fun row' h0 hr' => ?_⟩
    rw [List.getElem?_eq_getElem (by omega)] at hr'
    cases hr'
    exact h2 h0

theorem f14 {H : Hp} {q : Int} {v : Value} {l : List Rw} (hl : SlRw H v l) : Scal EE 14 [.agg #[.int .i64 q, v]] H (.bool (bsOk q l)) := by
  refine scal_ok rfl rfl k14 (by simp [c14]) rfl fun m hw => ?_
  have no : ∀ {s : St}, ¬ BsOk q l → s.H.take H.length = H → FV.val (Value.bool false) = FV.val (Value.bool (bsOk q l)) := fun h _ => by rw [bsOk_no h]
  simp only [Zaa, Zab, Zac, Zad, Zae, Zaf, Zag, Zah, Zai, go_r, Zaj, go_d, Zak, go_e, box2, Option.isSome_some, Nat.le_refl, Zal, go_o, go_g, Zam, Zan, Zao, Zap, Zaq, Zar, Zas, Zat, Zau, Zav, stp, Zaw, movK, mv1, ex, exv, exvs, Zax, Zay, ini, St.val, binK, binV, ofV, Zaz, unK, unV, beqK, beq_true, beq_false, if_true, if_false, List.getElem?_cons_zero, List.getElem?_cons_succ, ↓reduceIte, Nat.reduceEqDiff, reduceCtorEq, Za0, adr, Za1, Ad.fv, Ad.live, Za2, List.length_cons, List.length_nil, List.drop_zero, List.drop_succ_cons, List.take_succ_cons, List.take_zero, Nat.reduceAdd, Nat.reduceLeDiff, Nat.zero_add, Nat.add_zero, aeqK, agEq, scEq, Za3, Za4, exc, Za5, Za6, Za7, Za8, Za9, Zba, Zbb, Zbc, Zbd, List.reverse_cons, List.reverse_nil, List.nil_append, List.cons_append, extK, Bool.and_true, Bool.true_and, Bool.not_true, Bool.not_false, resT, Zbe, resV, true_and, and_true, Zbf, Zbg, Zbh, Zbi, Zbj, Zbk, Zbl, Zbm, Zbn, Zbo, Zbp, Zbq, Zbr, Zbs, Zbt, implies_true, Bool.and_self, Zbu, Zbv, Zbw, Zbx, Zby, Zbz, Zb0, Zb1, Zb2, List.take_length, decide_true, decide_false, Option.some.injEq, Value.bool.injEq, Value.int.injEq, Bool.false_and, Bool.and_false, not_false_eq_true, not_true_eq_false, Zb3, List.length_set, Nat.reduceMul, Bool.not_eq_true, Bool.not_eq_false, List.all_cons, List.all_nil, exps, Zb4, Zb5, strK, Zb6, fnK, Zb7, List.size_toArray, List.append_nil, List.singleton_append, Zb8, Zb9, Zbt, List.isEmpty_nil, List.isEmpty_cons, mkVK, mkOK, Zca, Zcb, Zcc, Zcd, Zce, Zcf, List.map_cons, List.map_nil, c14, hl.len, hl.vc, c58', hw]
  refine brT.intro (fun h1 => ?_) (fun h1 => ?_) <;> simp only [Zaa, Zab, Zac, Zad, Zae, Zaf, Zag, Zah, Zai, go_r, Zaj, go_d, Zak, go_e, box2, Option.isSome_some, Nat.le_refl, Zal, go_o, go_g, Zam, Zan, Zao, Zap, Zaq, Zar, Zas, Zat, Zau, Zav, stp, Zaw, movK, mv1, ex, exv, exvs, Zax, Zay, ini, St.val, binK, binV, ofV, Zaz, unK, unV, beqK, beq_true, beq_false, if_true, if_false, List.getElem?_cons_zero, List.getElem?_cons_succ, ↓reduceIte, Nat.reduceEqDiff, reduceCtorEq, Za0, adr, Za1, Ad.fv, Ad.live, Za2, List.length_cons, List.length_nil, List.drop_zero, List.drop_succ_cons, List.take_succ_cons, List.take_zero, Nat.reduceAdd, Nat.reduceLeDiff, Nat.zero_add, Nat.add_zero, aeqK, agEq, scEq, Za3, Za4, exc, Za5, Za6, Za7, Za8, Za9, Zba, Zbb, Zbc, Zbd, List.reverse_cons, List.reverse_nil, List.nil_append, List.cons_append, extK, Bool.and_true, Bool.true_and, Bool.not_true, Bool.not_false, resT, Zbe, resV, true_and, and_true, Zbf, Zbg, Zbh, Zbi, Zbj, Zbk, Zbl, Zbm, Zbn, Zbo, Zbp, Zbq, Zbr, Zbs, Zbt, implies_true, Bool.and_self, Zbu, Zbv, Zbw, Zbx, Zby, Zbz, Zb0, Zb1, Zb2, List.take_length, decide_true, decide_false, Option.some.injEq, Value.bool.injEq, Value.int.injEq, Bool.false_and, Bool.and_false, not_false_eq_true, not_true_eq_false, Zb3, List.length_set, Nat.reduceMul, Bool.not_eq_true, Bool.not_eq_false, List.all_cons, List.all_nil, exps, Zb4, Zb5, strK, Zb6, fnK, Zb7, List.size_toArray, List.append_nil, List.singleton_append, Zb8, Zb9, Zbt, List.isEmpty_nil, List.isEmpty_cons, mkVK, mkOK, Zca, Zcb, Zcc, Zcd, Zce, Zcf, List.map_cons, List.map_nil, h1]
  · have h1' := of_decide_eq_true h1
    rw [bsOk_no fun h => by have := h.1; omega]
  have h1' := of_decide_eq_false h1
  simp only [Zaa, Zab, Zac, Zad, Zae, Zaf, Zag, Zah, Zai, go_r, Zaj, go_d, Zak, go_e, box2, Option.isSome_some, Nat.le_refl, Zal, go_o, go_g, Zam, Zan, Zao, Zap, Zaq, Zar, Zas, Zat, Zau, Zav, stp, Zaw, movK, mv1, ex, exv, exvs, Zax, Zay, ini, St.val, binK, binV, ofV, Zaz, unK, unV, beqK, beq_true, beq_false, if_true, if_false, List.getElem?_cons_zero, List.getElem?_cons_succ, ↓reduceIte, Nat.reduceEqDiff, reduceCtorEq, Za0, adr, Za1, Ad.fv, Ad.live, Za2, List.length_cons, List.length_nil, List.drop_zero, List.drop_succ_cons, List.take_succ_cons, List.take_zero, Nat.reduceAdd, Nat.reduceLeDiff, Nat.zero_add, Nat.add_zero, aeqK, agEq, scEq, Za3, Za4, exc, Za5, Za6, Za7, Za8, Za9, Zba, Zbb, Zbc, Zbd, List.reverse_cons, List.reverse_nil, List.nil_append, List.cons_append, extK, Bool.and_true, Bool.true_and, Bool.not_true, Bool.not_false, resT, Zbe, resV, true_and, and_true, Zbf, Zbg, Zbh, Zbi, Zbj, Zbk, Zbl, Zbm, Zbn, Zbo, Zbp, Zbq, Zbr, Zbs, Zbt, implies_true, Bool.and_self, Zbu, Zbv, Zbw, Zbx, Zby, Zbz, Zb0, Zb1, Zb2, List.take_length, decide_true, decide_false, Option.some.injEq, Value.bool.injEq, Value.int.injEq, Bool.false_and, Bool.and_false, not_false_eq_true, not_true_eq_false, Zb3, List.length_set, Nat.reduceMul, Bool.not_eq_true, Bool.not_eq_false, List.all_cons, List.all_nil, exps, Zb4, Zb5, strK, Zb6, fnK, Zb7, List.size_toArray, List.append_nil, List.singleton_append, Zb8, Zb9, Zbt, List.isEmpty_nil, List.isEmpty_cons, mkVK, mkOK, Zca, Zcb, Zcc, Zcd, Zce, Zcf, List.map_cons, List.map_nil, c58', hw]
  refine brT.intro (fun h2 => ?_) (fun h2 => ?_) <;> simp only [Zaa, Zab, Zac, Zad, Zae, Zaf, Zag, Zah, Zai, go_r, Zaj, go_d, Zak, go_e, box2, Option.isSome_some, Nat.le_refl, Zal, go_o, go_g, Zam, Zan, Zao, Zap, Zaq, Zar, Zas, Zat, Zau, Zav, stp, Zaw, movK, mv1, ex, exv, exvs, Zax, Zay, ini, St.val, binK, binV, ofV, Zaz, unK, unV, beqK, beq_true, beq_false, if_true, if_false, List.getElem?_cons_zero, List.getElem?_cons_succ, ↓reduceIte, Nat.reduceEqDiff, reduceCtorEq, Za0, adr, Za1, Ad.fv, Ad.live, Za2, List.length_cons, List.length_nil, List.drop_zero, List.drop_succ_cons, List.take_succ_cons, List.take_zero, Nat.reduceAdd, Nat.reduceLeDiff, Nat.zero_add, Nat.add_zero, aeqK, agEq, scEq, Za3, Za4, exc, Za5, Za6, Za7, Za8, Za9, Zba, Zbb, Zbc, Zbd, List.reverse_cons, List.reverse_nil, List.nil_append, List.cons_append, extK, Bool.and_true, Bool.true_and, Bool.not_true, Bool.not_false, resT, Zbe, resV, true_and, and_true, Zbf, Zbg, Zbh, Zbi, Zbj, Zbk, Zbl, Zbm, Zbn, Zbo, Zbp, Zbq, Zbr, Zbs, Zbt, implies_true, Bool.and_self, Zbu, Zbv, Zbw, Zbx, Zby, Zbz, Zb0, Zb1, Zb2, List.take_length, decide_true, decide_false, Option.some.injEq, Value.bool.injEq, Value.int.injEq, Bool.false_and, Bool.and_false, not_false_eq_true, not_true_eq_false, Zb3, List.length_set, Nat.reduceMul, Bool.not_eq_true, Bool.not_eq_false, List.all_cons, List.all_nil, exps, Zb4, Zb5, strK, Zb6, fnK, Zb7, List.size_toArray, List.append_nil, List.singleton_append, Zb8, Zb9, Zbt, List.isEmpty_nil, List.isEmpty_cons, mkVK, mkOK, Zca, Zcb, Zcc, Zcd, Zce, Zcf, List.map_cons, List.map_nil, h2]
  rotate_left
  · have h2' : ¬ (0 ≤ q ∧ q ≤ 100000) := by simpa using h2
    rw [bsOk_no fun h => h2' h.2.1]
  have h2' : 0 ≤ q ∧ q ≤ 100000 := by simpa using h2
  refine go_for l.length (fun i s => s.H = H ∧ s.ρ 1 = .bx 0 [.int .i64 q, v] ∧ s.ρ 3 = .val (.int .i64 i) ∧ ∀ j, j < i → RowAt l j)
    (fun s => s.H = H ∧ ∀ j, j < l.length → RowAt l j) ?_ ?_ ?_
  · exact ⟨rfl, by simp [upd, ini], by simp [upd], fun j hj => by omega⟩
  · rintro i s hi ⟨hH, k1, k3, kok⟩
    simp only [Zaa, Zab, Zac, Zad, Zae, Zaf, Zag, Zah, Zai, go_r, Zaj, go_d, Zak, go_e, box2, Option.isSome_some, Nat.le_refl, Zal, go_o, go_g, Zam, Zan, Zao, Zap, Zaq, Zar, Zas, Zat, Zau, Zav, stp, Zaw, movK, mv1, ex, exv, exvs, Zax, Zay, ini, St.val, binK, binV, ofV, Zaz, unK, unV, beqK, beq_true, beq_false, if_true, if_false, List.getElem?_cons_zero, List.getElem?_cons_succ, ↓reduceIte, Nat.reduceEqDiff, reduceCtorEq, Za0, adr, Za1, Ad.fv, Ad.live, Za2, List.length_cons, List.length_nil, List.drop_zero, List.drop_succ_cons, List.take_succ_cons, List.take_zero, Nat.reduceAdd, Nat.reduceLeDiff, Nat.zero_add, Nat.add_zero, aeqK, agEq, scEq, Za3, Za4, exc, Za5, Za6, Za7, Za8, Za9, Zba, Zbb, Zbc, Zbd, List.reverse_cons, List.reverse_nil, List.nil_append, List.cons_append, extK, Bool.and_true, Bool.true_and, Bool.not_true, Bool.not_false, resT, Zbe, resV, true_and, and_true, Zbf, Zbg, Zbh, Zbi, Zbj, Zbk, Zbl, Zbm, Zbn, Zbo, Zbp, Zbq, Zbr, Zbs, Zbt, implies_true, Bool.and_self, Zbu, Zbv, Zbw, Zbx, Zby, Zbz, Zb0, Zb1, Zb2, List.take_length, decide_true, decide_false, Option.some.injEq, Value.bool.injEq, Value.int.injEq, Bool.false_and, Bool.and_false, not_false_eq_true, not_true_eq_false, Zb3, List.length_set, Nat.reduceMul, Bool.not_eq_true, Bool.not_eq_false, List.all_cons, List.all_nil, exps, Zb4, Zb5, strK, Zb6, fnK, Zb7, List.size_toArray, List.append_nil, List.singleton_append, Zb8, Zb9, Zbt, List.isEmpty_nil, List.isEmpty_cons, mkVK, mkOK, Zca, Zcb, Zcc, Zcd, Zce, Zcf, List.map_cons, List.map_nil, k1, k3, hl.len, hl.vc]
    refine brT.intro (fun c1 => ?_) (fun c1 => ?_) <;> simp only [Zaa, Zab, Zac, Zad, Zae, Zaf, Zag, Zah, Zai, go_r, Zaj, go_d, Zak, go_e, box2, Option.isSome_some, Nat.le_refl, Zal, go_o, go_g, Zam, Zan, Zao, Zap, Zaq, Zar, Zas, Zat, Zau, Zav, stp, Zaw, movK, mv1, ex, exv, exvs, Zax, Zay, ini, St.val, binK, binV, ofV, Zaz, unK, unV, beqK, beq_true, beq_false, if_true, if_false, List.getElem?_cons_zero, List.getElem?_cons_succ, ↓reduceIte, Nat.reduceEqDiff, reduceCtorEq, Za0, adr, Za1, Ad.fv, Ad.live, Za2, List.length_cons, List.length_nil, List.drop_zero, List.drop_succ_cons, List.take_succ_cons, List.take_zero, Nat.reduceAdd, Nat.reduceLeDiff, Nat.zero_add, Nat.add_zero, aeqK, agEq, scEq, Za3, Za4, exc, Za5, Za6, Za7, Za8, Za9, Zba, Zbb, Zbc, Zbd, List.reverse_cons, List.reverse_nil, List.nil_append, List.cons_append, extK, Bool.and_true, Bool.true_and, Bool.not_true, Bool.not_false, resT, Zbe, resV, true_and, and_true, Zbf, Zbg, Zbh, Zbi, Zbj, Zbk, Zbl, Zbm, Zbn, Zbo, Zbp, Zbq, Zbr, Zbs, Zbt, implies_true, Bool.and_self, Zbu, Zbv, Zbw, Zbx, Zby, Zbz, Zb0, Zb1, Zb2, List.take_length, decide_true, decide_false, Option.some.injEq, Value.bool.injEq, Value.int.injEq, Bool.false_and, Bool.and_false, not_false_eq_true, not_true_eq_false, Zb3, List.length_set, Nat.reduceMul, Bool.not_eq_true, Bool.not_eq_false, List.all_cons, List.all_nil, exps, Zb4, Zb5, strK, Zb6, fnK, Zb7, List.size_toArray, List.append_nil, List.singleton_append, Zb8, Zb9, Zbt, List.isEmpty_nil, List.isEmpty_cons, mkVK, mkOK, Zca, Zcb, Zcc, Zcd, Zce, Zcf, List.map_cons, List.map_nil, k1, k3]
    · have hil : i < l.length := by have := of_decide_eq_true c1; omega
      obtain ⟨id, p, o, ho, hr, hp, hia⟩ := hl.elem (List.getElem?_eq_getElem hil)
      unfold En at hr
      have ho0 : o[p]? = some (.int .i64 l[i].1) := by simpa [eRw] using getElem?_of_take hr (j := 0) (by omega)
      have hat := rowAt_at hil
      have w1 : IntKind.i64.wrap ((i : Int) + 1) = (i : Int) + 1 := wrap64 _ (by omega) (by omega)
      have hno : ¬ RowAt l i → ¬ BsOk q l := fun h h2 => h (h2.2.2 i hil)
      refine go_draw ?_
      simp only [Zaa, Zab, Zac, Zad, Zae, Zaf, Zag, Zah, Zai, go_r, Zaj, go_d, Zak, go_e, box2, Option.isSome_some, Nat.le_refl, Zal, go_o, go_g, Zam, Zan, Zao, Zap, Zaq, Zar, Zas, Zat, Zau, Zav, stp, Zaw, movK, mv1, ex, exv, exvs, Zax, Zay, ini, St.val, binK, binV, ofV, Zaz, unK, unV, beqK, beq_true, beq_false, if_true, if_false, List.getElem?_cons_zero, List.getElem?_cons_succ, ↓reduceIte, Nat.reduceEqDiff, reduceCtorEq, Za0, adr, Za1, Ad.fv, Ad.live, Za2, List.length_cons, List.length_nil, List.drop_zero, List.drop_succ_cons, List.take_succ_cons, List.take_zero, Nat.reduceAdd, Nat.reduceLeDiff, Nat.zero_add, Nat.add_zero, aeqK, agEq, scEq, Za3, Za4, exc, Za5, Za6, Za7, Za8, Za9, Zba, Zbb, Zbc, Zbd, List.reverse_cons, List.reverse_nil, List.nil_append, List.cons_append, extK, Bool.and_true, Bool.true_and, Bool.not_true, Bool.not_false, resT, Zbe, resV, true_and, and_true, Zbf, Zbg, Zbh, Zbi, Zbj, Zbk, Zbl, Zbm, Zbn, Zbo, Zbp, Zbq, Zbr, Zbs, Zbt, implies_true, Bool.and_self, Zbu, Zbv, Zbw, Zbx, Zby, Zbz, Zb0, Zb1, Zb2, List.take_length, decide_true, decide_false, Option.some.injEq, Value.bool.injEq, Value.int.injEq, Bool.false_and, Bool.and_false, not_false_eq_true, not_true_eq_false, Zb3, List.length_set, Nat.reduceMul, Bool.not_eq_true, Bool.not_eq_false, List.all_cons, List.all_nil, exps, Zb4, Zb5, strK, Zb6, fnK, Zb7, List.size_toArray, List.append_nil, List.singleton_append, Zb8, Zb9, Zbt, List.isEmpty_nil, List.isEmpty_cons, mkVK, mkOK, Zca, Zcb, Zcc, Zcd, Zce, Zcf, List.map_cons, List.map_nil, k1, k3, hl.vc, hia, hH, ho, hr, hp, eRw, c59', hw]
      refine brT.intro (fun c2 => ?_) (fun c2 => ?_) <;> simp only [Zaa, Zab, Zac, Zad, Zae, Zaf, Zag, Zah, Zai, go_r, Zaj, go_d, Zak, go_e, box2, Option.isSome_some, Nat.le_refl, Zal, go_o, go_g, Zam, Zan, Zao, Zap, Zaq, Zar, Zas, Zat, Zau, Zav, stp, Zaw, movK, mv1, ex, exv, exvs, Zax, Zay, ini, St.val, binK, binV, ofV, Zaz, unK, unV, beqK, beq_true, beq_false, if_true, if_false, List.getElem?_cons_zero, List.getElem?_cons_succ, ↓reduceIte, Nat.reduceEqDiff, reduceCtorEq, Za0, adr, Za1, Ad.fv, Ad.live, Za2, List.length_cons, List.length_nil, List.drop_zero, List.drop_succ_cons, List.take_succ_cons, List.take_zero, Nat.reduceAdd, Nat.reduceLeDiff, Nat.zero_add, Nat.add_zero, aeqK, agEq, scEq, Za3, Za4, exc, Za5, Za6, Za7, Za8, Za9, Zba, Zbb, Zbc, Zbd, List.reverse_cons, List.reverse_nil, List.nil_append, List.cons_append, extK, Bool.and_true, Bool.true_and, Bool.not_true, Bool.not_false, resT, Zbe, resV, true_and, and_true, Zbf, Zbg, Zbh, Zbi, Zbj, Zbk, Zbl, Zbm, Zbn, Zbo, Zbp, Zbq, Zbr, Zbs, Zbt, implies_true, Bool.and_self, Zbu, Zbv, Zbw, Zbx, Zby, Zbz, Zb0, Zb1, Zb2, List.take_length, decide_true, decide_false, Option.some.injEq, Value.bool.injEq, Value.int.injEq, Bool.false_and, Bool.and_false, not_false_eq_true, not_true_eq_false, Zb3, List.length_set, Nat.reduceMul, Bool.not_eq_true, Bool.not_eq_false, List.all_cons, List.all_nil, exps, Zb4, Zb5, strK, Zb6, fnK, Zb7, List.size_toArray, List.append_nil, List.singleton_append, Zb8, Zb9, Zbt, List.isEmpty_nil, List.isEmpty_cons, mkVK, mkOK, Zca, Zcb, Zcc, Zcd, Zce, Zcf, List.map_cons, List.map_nil, c2, k1, k3, hl.vc]
      · refine brT.intro (fun c3 => ?_) (fun c3 => ?_) <;> simp only [Zaa, Zab, Zac, Zad, Zae, Zaf, Zag, Zah, Zai, go_r, Zaj, go_d, Zak, go_e, box2, Option.isSome_some, Nat.le_refl, Zal, go_o, go_g, Zam, Zan, Zao, Zap, Zaq, Zar, Zas, Zat, Zau, Zav, stp, Zaw, movK, mv1, ex, exv, exvs, Zax, Zay, ini, St.val, binK, binV, ofV, Zaz, unK, unV, beqK, beq_true, beq_false, if_true, if_false, List.getElem?_cons_zero, List.getElem?_cons_succ, ↓reduceIte, Nat.reduceEqDiff, reduceCtorEq, Za0, adr, Za1, Ad.fv, Ad.live, Za2, List.length_cons, List.length_nil, List.drop_zero, List.drop_succ_cons, List.take_succ_cons, List.take_zero, Nat.reduceAdd, Nat.reduceLeDiff, Nat.zero_add, Nat.add_zero, aeqK, agEq, scEq, Za3, Za4, exc, Za5, Za6, Za7, Za8, Za9, Zba, Zbb, Zbc, Zbd, List.reverse_cons, List.reverse_nil, List.nil_append, List.cons_append, extK, Bool.and_true, Bool.true_and, Bool.not_true, Bool.not_false, resT, Zbe, resV, true_and, and_true, Zbf, Zbg, Zbh, Zbi, Zbj, Zbk, Zbl, Zbm, Zbn, Zbo, Zbp, Zbq, Zbr, Zbs, Zbt, implies_true, Bool.and_self, Zbu, Zbv, Zbw, Zbx, Zby, Zbz, Zb0, Zb1, Zb2, List.take_length, decide_true, decide_false, Option.some.injEq, Value.bool.injEq, Value.int.injEq, Bool.false_and, Bool.and_false, not_false_eq_true, not_true_eq_false, Zb3, List.length_set, Nat.reduceMul, Bool.not_eq_true, Bool.not_eq_false, List.all_cons, List.all_nil, exps, Zb4, Zb5, strK, Zb6, fnK, Zb7, List.size_toArray, List.append_nil, List.singleton_append, Zb8, Zb9, Zbt, List.isEmpty_nil, List.isEmpty_cons, mkVK, mkOK, Zca, Zcb, Zcc, Zcd, Zce, Zcf, List.map_cons, List.map_nil, c2, c3, k1, k3, hl.vc]
        · have hi0 : 0 < i := by have := of_decide_eq_true c3; omega
          have hil1 : i - 1 < l.length := by omega
          obtain ⟨id', p', o', ho', hr', hp', hia'⟩ := hl.elem (List.getElem?_eq_getElem hil1)
          unfold En at hr'
          have ho1 : o'[p']? = some (.int .i64 l[i - 1].1) := by simpa [eRw] using getElem?_of_take hr' (j := 0) (by omega)
          have w2 : IntKind.i64.wrap ((i : Int) - 1) = ((i - 1 : Nat) : Int) := by rw [wrap64 _ (by omega) (by omega)]; omega
          simp only [Zaa, Zab, Zac, Zad, Zae, Zaf, Zag, Zah, Zai, go_r, Zaj, go_d, Zak, go_e, box2, Option.isSome_some, Nat.le_refl, Zal, go_o, go_g, Zam, Zan, Zao, Zap, Zaq, Zar, Zas, Zat, Zau, Zav, stp, Zaw, movK, mv1, ex, exv, exvs, Zax, Zay, ini, St.val, binK, binV, ofV, Zaz, unK, unV, beqK, beq_true, beq_false, if_true, if_false, List.getElem?_cons_zero, List.getElem?_cons_succ, ↓reduceIte, Nat.reduceEqDiff, reduceCtorEq, Za0, adr, Za1, Ad.fv, Ad.live, Za2, List.length_cons, List.length_nil, List.drop_zero, List.drop_succ_cons, List.take_succ_cons, List.take_zero, Nat.reduceAdd, Nat.reduceLeDiff, Nat.zero_add, Nat.add_zero, aeqK, agEq, scEq, Za3, Za4, exc, Za5, Za6, Za7, Za8, Za9, Zba, Zbb, Zbc, Zbd, List.reverse_cons, List.reverse_nil, List.nil_append, List.cons_append, extK, Bool.and_true, Bool.true_and, Bool.not_true, Bool.not_false, resT, Zbe, resV, true_and, and_true, Zbf, Zbg, Zbh, Zbi, Zbj, Zbk, Zbl, Zbm, Zbn, Zbo, Zbp, Zbq, Zbr, Zbs, Zbt, implies_true, Bool.and_self, Zbu, Zbv, Zbw, Zbx, Zby, Zbz, Zb0, Zb1, Zb2, List.take_length, decide_true, decide_false, Option.some.injEq, Value.bool.injEq, Value.int.injEq, Bool.false_and, Bool.and_false, not_false_eq_true, not_true_eq_false, Zb3, List.length_set, Nat.reduceMul, Bool.not_eq_true, Bool.not_eq_false, List.all_cons, List.all_nil, exps, Zb4, Zb5, strK, Zb6, fnK, Zb7, List.size_toArray, List.append_nil, List.singleton_append, Zb8, Zb9, Zbt, List.isEmpty_nil, List.isEmpty_cons, mkVK, mkOK, Zca, Zcb, Zcc, Zcd, Zce, Zcf, List.map_cons, List.map_nil, c2, c3, k1, k3, hl.vc, w2, hia, ho, ho0, hia', hH, ho', ho1]
          refine ⟨by rfl, ?_⟩
          refine brT.intro (fun c4 => ?_) (fun c4 => ?_) <;> simp only [Zaa, Zab, Zac, Zad, Zae, Zaf, Zag, Zah, Zai, go_r, Zaj, go_d, Zak, go_e, box2, Option.isSome_some, Nat.le_refl, Zal, go_o, go_g, Zam, Zan, Zao, Zap, Zaq, Zar, Zas, Zat, Zau, Zav, stp, Zaw, movK, mv1, ex, exv, exvs, Zax, Zay, ini, St.val, binK, binV, ofV, Zaz, unK, unV, beqK, beq_true, beq_false, if_true, if_false, List.getElem?_cons_zero, List.getElem?_cons_succ, ↓reduceIte, Nat.reduceEqDiff, reduceCtorEq, Za0, adr, Za1, Ad.fv, Ad.live, Za2, List.length_cons, List.length_nil, List.drop_zero, List.drop_succ_cons, List.take_succ_cons, List.take_zero, Nat.reduceAdd, Nat.reduceLeDiff, Nat.zero_add, Nat.add_zero, aeqK, agEq, scEq, Za3, Za4, exc, Za5, Za6, Za7, Za8, Za9, Zba, Zbb, Zbc, Zbd, List.reverse_cons, List.reverse_nil, List.nil_append, List.cons_append, extK, Bool.and_true, Bool.true_and, Bool.not_true, Bool.not_false, resT, Zbe, resV, true_and, and_true, Zbf, Zbg, Zbh, Zbi, Zbj, Zbk, Zbl, Zbm, Zbn, Zbo, Zbp, Zbq, Zbr, Zbs, Zbt, implies_true, Bool.and_self, Zbu, Zbv, Zbw, Zbx, Zby, Zbz, Zb0, Zb1, Zb2, List.take_length, decide_true, decide_false, Option.some.injEq, Value.bool.injEq, Value.int.injEq, Bool.false_and, Bool.and_false, not_false_eq_true, not_true_eq_false, Zb3, List.length_set, Nat.reduceMul, Bool.not_eq_true, Bool.not_eq_false, List.all_cons, List.all_nil, exps, Zb4, Zb5, strK, Zb6, fnK, Zb7, List.size_toArray, List.append_nil, List.singleton_append, Zb8, Zb9, Zbt, List.isEmpty_nil, List.isEmpty_cons, mkVK, mkOK, Zca, Zcb, Zcc, Zcd, Zce, Zcf, List.map_cons, List.map_nil, k1, k3, w1]
          · have c4' := of_decide_eq_true c4
            rw [bsOk_no (hno fun h => by have := (hat.1 h).2 hi0; omega)]
          · have c4' := of_decide_eq_false c4
            refine ⟨hil, by simp, fun j hj => ?_⟩
            by_cases e : j = i
            · subst e
              exact hat.2 ⟨c2, fun _ => by omega⟩
            · exact kok j (by omega)
        · have hi0 : i = 0 := by have := of_decide_eq_false c3; omega
          refine ⟨by rfl, ?_⟩
          simp only [Zaa, Zab, Zac, Zad, Zae, Zaf, Zag, Zah, Zai, go_r, Zaj, go_d, Zak, go_e, box2, Option.isSome_some, Nat.le_refl, Zal, go_o, go_g, Zam, Zan, Zao, Zap, Zaq, Zar, Zas, Zat, Zau, Zav, stp, Zaw, movK, mv1, ex, exv, exvs, Zax, Zay, ini, St.val, binK, binV, ofV, Zaz, unK, unV, beqK, beq_true, beq_false, if_true, if_false, List.getElem?_cons_zero, List.getElem?_cons_succ, ↓reduceIte, Nat.reduceEqDiff, reduceCtorEq, Za0, adr, Za1, Ad.fv, Ad.live, Za2, List.length_cons, List.length_nil, List.drop_zero, List.drop_succ_cons, List.take_succ_cons, List.take_zero, Nat.reduceAdd, Nat.reduceLeDiff, Nat.zero_add, Nat.add_zero, aeqK, agEq, scEq, Za3, Za4, exc, Za5, Za6, Za7, Za8, Za9, Zba, Zbb, Zbc, Zbd, List.reverse_cons, List.reverse_nil, List.nil_append, List.cons_append, extK, Bool.and_true, Bool.true_and, Bool.not_true, Bool.not_false, resT, Zbe, resV, true_and, and_true, Zbf, Zbg, Zbh, Zbi, Zbj, Zbk, Zbl, Zbm, Zbn, Zbo, Zbp, Zbq, Zbr, Zbs, Zbt, implies_true, Bool.and_self, Zbu, Zbv, Zbw, Zbx, Zby, Zbz, Zb0, Zb1, Zb2, List.take_length, decide_true, decide_false, Option.some.injEq, Value.bool.injEq, Value.int.injEq, Bool.false_and, Bool.and_false, not_false_eq_true, not_true_eq_false, Zb3, List.length_set, Nat.reduceMul, Bool.not_eq_true, Bool.not_eq_false, List.all_cons, List.all_nil, exps, Zb4, Zb5, strK, Zb6, fnK, Zb7, List.size_toArray, List.append_nil, List.singleton_append, Zb8, Zb9, Zbt, List.isEmpty_nil, List.isEmpty_cons, mkVK, mkOK, Zca, Zcb, Zcc, Zcd, Zce, Zcf, List.map_cons, List.map_nil, k1, k3, w1]
          refine ⟨hil, by simp, fun j hj => ?_⟩
          by_cases e : j = i
          · subst e
            exact hat.2 ⟨c2, fun h => by omega⟩
          · exact kok j (by omega)
      · refine ⟨by rfl, ?_⟩
        rw [bsOk_no (hno fun h => by have := (hat.1 h).1; rw [this] at c2; cases c2)]
    · have : i = l.length := by have := of_decide_eq_false c1; omega
      subst this
      exact ⟨hH, kok⟩
  · rintro s ⟨hH, kok⟩
    simp only [Zaa, Zab, Zac, Zad, Zae, Zaf, Zag, Zah, Zai, go_r, Zaj, go_d, Zak, go_e, box2, Option.isSome_some, Nat.le_refl, Zal, go_o, go_g, Zam, Zan, Zao, Zap, Zaq, Zar, Zas, Zat, Zau, Zav, stp, Zaw, movK, mv1, ex, exv, exvs, Zax, Zay, ini, St.val, binK, binV, ofV, Zaz, unK, unV, beqK, beq_true, beq_false, if_true, if_false, List.getElem?_cons_zero, List.getElem?_cons_succ, ↓reduceIte, Nat.reduceEqDiff, reduceCtorEq, Za0, adr, Za1, Ad.fv, Ad.live, Za2, List.length_cons, List.length_nil, List.drop_zero, List.drop_succ_cons, List.take_succ_cons, List.take_zero, Nat.reduceAdd, Nat.reduceLeDiff, Nat.zero_add, Nat.add_zero, aeqK, agEq, scEq, Za3, Za4, exc, Za5, Za6, Za7, Za8, Za9, Zba, Zbb, Zbc, Zbd, List.reverse_cons, List.reverse_nil, List.nil_append, List.cons_append, extK, Bool.and_true, Bool.true_and, Bool.not_true, Bool.not_false, resT, Zbe, resV, true_and, and_true, Zbf, Zbg, Zbh, Zbi, Zbj, Zbk, Zbl, Zbm, Zbn, Zbo, Zbp, Zbq, Zbr, Zbs, Zbt, implies_true, Bool.and_self, Zbu, Zbv, Zbw, Zbx, Zby, Zbz, Zb0, Zb1, Zb2, List.take_length, decide_true, decide_false, Option.some.injEq, Value.bool.injEq, Value.int.injEq, Bool.false_and, Bool.and_false, not_false_eq_true, not_true_eq_false, Zb3, List.length_set, Nat.reduceMul, Bool.not_eq_true, Bool.not_eq_false, List.all_cons, List.all_nil, exps, Zb4, Zb5, strK, Zb6, fnK, Zb7, List.size_toArray, List.append_nil, List.singleton_append, Zb8, Zb9, Zbt, List.isEmpty_nil, List.isEmpty_cons, mkVK, mkOK, Zca, Zcb, Zcc, Zcd, Zce, Zcf, List.map_cons, List.map_nil, hH]
    rw [bsOk_yes ⟨by omega, h2', kok⟩]

theorem f16 {H : Hp} {q : Int} {v : Value} {l : List Rw} (hl : SlRw H v l) : Scal EE 16 [.agg #[.int .i64 q, v]] H (.bool (bsOk q l)) := by
  refine scal_ok rfl rfl k16 (by simp [c16]) rfl fun m hw => ?_
  have hroom := hl.room
  simp only [Zaa, Zab, Zac, Zad, Zae, Zaf, Zag, Zah, Zai, go_r, Zaj, go_d, Zak, go_e, box2, Option.isSome_some, Nat.le_refl, Zal, go_o, go_g, Zam, Zan, Zao, Zap, Zaq, Zar, Zas, Zat, Zau, Zav, stp, Zaw, movK, mv1, ex, exv, exvs, Zax, Zay, ini, St.val, binK, binV, ofV, Zaz, unK, unV, beqK, beq_true, beq_false, if_true, if_false, List.getElem?_cons_zero, List.getElem?_cons_succ, ↓reduceIte, Nat.reduceEqDiff, reduceCtorEq, Za0, adr, Za1, Ad.fv, Ad.live, Za2, List.length_cons, List.length_nil, List.drop_zero, List.drop_succ_cons, List.take_succ_cons, List.take_zero, Nat.reduceAdd, Nat.reduceLeDiff, Nat.zero_add, Nat.add_zero, aeqK, agEq, scEq, Za3, Za4, exc, Za5, Za6, Za7, Za8, Za9, Zba, Zbb, Zbc, Zbd, List.reverse_cons, List.reverse_nil, List.nil_append, List.cons_append, extK, Bool.and_true, Bool.true_and, Bool.not_true, Bool.not_false, resT, Zbe, resV, true_and, and_true, Zbf, Zbg, Zbh, Zbi, Zbj, Zbk, Zbl, Zbm, Zbn, Zbo, Zbp, Zbq, Zbr, Zbs, Zbt, implies_true, Bool.and_self, Zbu, Zbv, Zbw, Zbx, Zby, Zbz, Zb0, Zb1, Zb2, List.take_length, decide_true, decide_false, Option.some.injEq, Value.bool.injEq, Value.int.injEq, Bool.false_and, Bool.and_false, not_false_eq_true, not_true_eq_false, Zb3, List.length_set, Nat.reduceMul, Bool.not_eq_true, Bool.not_eq_false, List.all_cons, List.all_nil, exps, Zb4, Zb5, strK, Zb6, fnK, Zb7, List.size_toArray, List.append_nil, List.singleton_append, Zb8, Zb9, Zbt, List.isEmpty_nil, List.isEmpty_cons, mkVK, mkOK, Zca, Zcb, Zcc, Zcd, Zce, Zcf, List.map_cons, List.map_nil, c16, hl.len, hl.vc]
  refine go_for l.length (fun i s => s.H = H ∧ s.ρ 1 = .bx 0 [.int .i64 q, v] ∧ s.ρ 6 = .val v ∧ s.ρ 7 = .val (.int .i64 l.length) ∧ s.ρ 8 = .val (.int .i64 i) ∧ ∀ j, j < i → RowAt l j)
    (fun s => s.H = H ∧ s.ρ 1 = .bx 0 [.int .i64 q, v] ∧ ∀ j, j < l.length → RowAt l j) ?_ ?_ ?_
  · exact ⟨rfl, by simp [upd, ini], by simp [upd], by simp [upd], by simp [upd], fun j hj => by omega⟩
  · rintro i s hi ⟨hH, k1, k6, k7, k8, kok⟩
    simp only [Zaa, Zab, Zac, Zad, Zae, Zaf, Zag, Zah, Zai, go_r, Zaj, go_d, Zak, go_e, box2, Option.isSome_some, Nat.le_refl, Zal, go_o, go_g, Zam, Zan, Zao, Zap, Zaq, Zar, Zas, Zat, Zau, Zav, stp, Zaw, movK, mv1, ex, exv, exvs, Zax, Zay, ini, St.val, binK, binV, ofV, Zaz, unK, unV, beqK, beq_true, beq_false, if_true, if_false, List.getElem?_cons_zero, List.getElem?_cons_succ, ↓reduceIte, Nat.reduceEqDiff, reduceCtorEq, Za0, adr, Za1, Ad.fv, Ad.live, Za2, List.length_cons, List.length_nil, List.drop_zero, List.drop_succ_cons, List.take_succ_cons, List.take_zero, Nat.reduceAdd, Nat.reduceLeDiff, Nat.zero_add, Nat.add_zero, aeqK, agEq, scEq, Za3, Za4, exc, Za5, Za6, Za7, Za8, Za9, Zba, Zbb, Zbc, Zbd, List.reverse_cons, List.reverse_nil, List.nil_append, List.cons_append, extK, Bool.and_true, Bool.true_and, Bool.not_true, Bool.not_false, resT, Zbe, resV, true_and, and_true, Zbf, Zbg, Zbh, Zbi, Zbj, Zbk, Zbl, Zbm, Zbn, Zbo, Zbp, Zbq, Zbr, Zbs, Zbt, implies_true, Bool.and_self, Zbu, Zbv, Zbw, Zbx, Zby, Zbz, Zb0, Zb1, Zb2, List.take_length, decide_true, decide_false, Option.some.injEq, Value.bool.injEq, Value.int.injEq, Bool.false_and, Bool.and_false, not_false_eq_true, not_true_eq_false, Zb3, List.length_set, Nat.reduceMul, Bool.not_eq_true, Bool.not_eq_false, List.all_cons, List.all_nil, exps, Zb4, Zb5, strK, Zb6, fnK, Zb7, List.size_toArray, List.append_nil, List.singleton_append, Zb8, Zb9, Zbt, List.isEmpty_nil, List.isEmpty_cons, mkVK, mkOK, Zca, Zcb, Zcc, Zcd, Zce, Zcf, List.map_cons, List.map_nil, k1, k6, k7, k8]
    refine brT.intro (fun c1 => ?_) (fun c1 => ?_) <;> simp only [Zaa, Zab, Zac, Zad, Zae, Zaf, Zag, Zah, Zai, go_r, Zaj, go_d, Zak, go_e, box2, Option.isSome_some, Nat.le_refl, Zal, go_o, go_g, Zam, Zan, Zao, Zap, Zaq, Zar, Zas, Zat, Zau, Zav, stp, Zaw, movK, mv1, ex, exv, exvs, Zax, Zay, ini, St.val, binK, binV, ofV, Zaz, unK, unV, beqK, beq_true, beq_false, if_true, if_false, List.getElem?_cons_zero, List.getElem?_cons_succ, ↓reduceIte, Nat.reduceEqDiff, reduceCtorEq, Za0, adr, Za1, Ad.fv, Ad.live, Za2, List.length_cons, List.length_nil, List.drop_zero, List.drop_succ_cons, List.take_succ_cons, List.take_zero, Nat.reduceAdd, Nat.reduceLeDiff, Nat.zero_add, Nat.add_zero, aeqK, agEq, scEq, Za3, Za4, exc, Za5, Za6, Za7, Za8, Za9, Zba, Zbb, Zbc, Zbd, List.reverse_cons, List.reverse_nil, List.nil_append, List.cons_append, extK, Bool.and_true, Bool.true_and, Bool.not_true, Bool.not_false, resT, Zbe, resV, true_and, and_true, Zbf, Zbg, Zbh, Zbi, Zbj, Zbk, Zbl, Zbm, Zbn, Zbo, Zbp, Zbq, Zbr, Zbs, Zbt, implies_true, Bool.and_self, Zbu, Zbv, Zbw, Zbx, Zby, Zbz, Zb0, Zb1, Zb2, List.take_length, decide_true, decide_false, Option.some.injEq, Value.bool.injEq, Value.int.injEq, Bool.false_and, Bool.and_false, not_false_eq_true, not_true_eq_false, Zb3, List.length_set, Nat.reduceMul, Bool.not_eq_true, Bool.not_eq_false, List.all_cons, List.all_nil, exps, Zb4, Zb5, strK, Zb6, fnK, Zb7, List.size_toArray, List.append_nil, List.singleton_append, Zb8, Zb9, Zbt, List.isEmpty_nil, List.isEmpty_cons, mkVK, mkOK, Zca, Zcb, Zcc, Zcd, Zce, Zcf, List.map_cons, List.map_nil, k1, k6, k7, k8]
    · have hil : i < l.length := by have := of_decide_eq_true c1; omega
      obtain ⟨id, p, o, ho, hr, hp, hia⟩ := hl.elem (List.getElem?_eq_getElem hil)
      unfold En at hr
      have hat := rowAt_at hil
      have w1 : IntKind.i64.wrap ((i : Int) + 1) = (i : Int) + 1 := wrap64 _ (by omega) (by omega)
      have hno : ¬ RowAt l i → ¬ BsOk q l := fun h h2 => h (h2.2.2 i hil)
      simp only [Zaa, Zab, Zac, Zad, Zae, Zaf, Zag, Zah, Zai, go_r, Zaj, go_d, Zak, go_e, box2, Option.isSome_some, Nat.le_refl, Zal, go_o, go_g, Zam, Zan, Zao, Zap, Zaq, Zar, Zas, Zat, Zau, Zav, stp, Zaw, movK, mv1, ex, exv, exvs, Zax, Zay, ini, St.val, binK, binV, ofV, Zaz, unK, unV, beqK, beq_true, beq_false, if_true, if_false, List.getElem?_cons_zero, List.getElem?_cons_succ, ↓reduceIte, Nat.reduceEqDiff, reduceCtorEq, Za0, adr, Za1, Ad.fv, Ad.live, Za2, List.length_cons, List.length_nil, List.drop_zero, List.drop_succ_cons, List.take_succ_cons, List.take_zero, Nat.reduceAdd, Nat.reduceLeDiff, Nat.zero_add, Nat.add_zero, aeqK, agEq, scEq, Za3, Za4, exc, Za5, Za6, Za7, Za8, Za9, Zba, Zbb, Zbc, Zbd, List.reverse_cons, List.reverse_nil, List.nil_append, List.cons_append, extK, Bool.and_true, Bool.true_and, Bool.not_true, Bool.not_false, resT, Zbe, resV, true_and, and_true, Zbf, Zbg, Zbh, Zbi, Zbj, Zbk, Zbl, Zbm, Zbn, Zbo, Zbp, Zbq, Zbr, Zbs, Zbt, implies_true, Bool.and_self, Zbu, Zbv, Zbw, Zbx, Zby, Zbz, Zb0, Zb1, Zb2, List.take_length, decide_true, decide_false, Option.some.injEq, Value.bool.injEq, Value.int.injEq, Bool.false_and, Bool.and_false, not_false_eq_true, not_true_eq_false, Zb3, List.length_set, Nat.reduceMul, Bool.not_eq_true, Bool.not_eq_false, List.all_cons, List.all_nil, exps, Zb4, Zb5, strK, Zb6, fnK, Zb7, List.size_toArray, List.append_nil, List.singleton_append, Zb8, Zb9, Zbt, List.isEmpty_nil, List.isEmpty_cons, mkVK, mkOK, Zca, Zcb, Zcc, Zcd, Zce, Zcf, List.map_cons, List.map_nil, k1, k6, k7, k8, hia, hH, ho, hr, hp, eRw]
      refine go_draw ?_
      simp only [Zaa, Zab, Zac, Zad, Zae, Zaf, Zag, Zah, Zai, go_r, Zaj, go_d, Zak, go_e, box2, Option.isSome_some, Nat.le_refl, Zal, go_o, go_g, Zam, Zan, Zao, Zap, Zaq, Zar, Zas, Zat, Zau, Zav, stp, Zaw, movK, mv1, ex, exv, exvs, Zax, Zay, ini, St.val, binK, binV, ofV, Zaz, unK, unV, beqK, beq_true, beq_false, if_true, if_false, List.getElem?_cons_zero, List.getElem?_cons_succ, ↓reduceIte, Nat.reduceEqDiff, reduceCtorEq, Za0, adr, Za1, Ad.fv, Ad.live, Za2, List.length_cons, List.length_nil, List.drop_zero, List.drop_succ_cons, List.take_succ_cons, List.take_zero, Nat.reduceAdd, Nat.reduceLeDiff, Nat.zero_add, Nat.add_zero, aeqK, agEq, scEq, Za3, Za4, exc, Za5, Za6, Za7, Za8, Za9, Zba, Zbb, Zbc, Zbd, List.reverse_cons, List.reverse_nil, List.nil_append, List.cons_append, extK, Bool.and_true, Bool.true_and, Bool.not_true, Bool.not_false, resT, Zbe, resV, true_and, and_true, Zbf, Zbg, Zbh, Zbi, Zbj, Zbk, Zbl, Zbm, Zbn, Zbo, Zbp, Zbq, Zbr, Zbs, Zbt, implies_true, Bool.and_self, Zbu, Zbv, Zbw, Zbx, Zby, Zbz, Zb0, Zb1, Zb2, List.take_length, decide_true, decide_false, Option.some.injEq, Value.bool.injEq, Value.int.injEq, Bool.false_and, Bool.and_false, not_false_eq_true, not_true_eq_false, Zb3, List.length_set, Nat.reduceMul, Bool.not_eq_true, Bool.not_eq_false, List.all_cons, List.all_nil, exps, Zb4, Zb5, strK, Zb6, fnK, Zb7, List.size_toArray, List.append_nil, List.singleton_append, Zb8, Zb9, Zbt, List.isEmpty_nil, List.isEmpty_cons, mkVK, mkOK, Zca, Zcb, Zcc, Zcd, Zce, Zcf, List.map_cons, List.map_nil, k1, k6, k7, k8, hl.vc, c61', hw]
      refine brT.intro (fun c2 => ?_) (fun c2 => ?_) <;> simp only [Zaa, Zab, Zac, Zad, Zae, Zaf, Zag, Zah, Zai, go_r, Zaj, go_d, Zak, go_e, box2, Option.isSome_some, Nat.le_refl, Zal, go_o, go_g, Zam, Zan, Zao, Zap, Zaq, Zar, Zas, Zat, Zau, Zav, stp, Zaw, movK, mv1, ex, exv, exvs, Zax, Zay, ini, St.val, binK, binV, ofV, Zaz, unK, unV, beqK, beq_true, beq_false, if_true, if_false, List.getElem?_cons_zero, List.getElem?_cons_succ, ↓reduceIte, Nat.reduceEqDiff, reduceCtorEq, Za0, adr, Za1, Ad.fv, Ad.live, Za2, List.length_cons, List.length_nil, List.drop_zero, List.drop_succ_cons, List.take_succ_cons, List.take_zero, Nat.reduceAdd, Nat.reduceLeDiff, Nat.zero_add, Nat.add_zero, aeqK, agEq, scEq, Za3, Za4, exc, Za5, Za6, Za7, Za8, Za9, Zba, Zbb, Zbc, Zbd, List.reverse_cons, List.reverse_nil, List.nil_append, List.cons_append, extK, Bool.and_true, Bool.true_and, Bool.not_true, Bool.not_false, resT, Zbe, resV, true_and, and_true, Zbf, Zbg, Zbh, Zbi, Zbj, Zbk, Zbl, Zbm, Zbn, Zbo, Zbp, Zbq, Zbr, Zbs, Zbt, implies_true, Bool.and_self, Zbu, Zbv, Zbw, Zbx, Zby, Zbz, Zb0, Zb1, Zb2, List.take_length, decide_true, decide_false, Option.some.injEq, Value.bool.injEq, Value.int.injEq, Bool.false_and, Bool.and_false, not_false_eq_true, not_true_eq_false, Zb3, List.length_set, Nat.reduceMul, Bool.not_eq_true, Bool.not_eq_false, List.all_cons, List.all_nil, exps, Zb4, Zb5, strK, Zb6, fnK, Zb7, List.size_toArray, List.append_nil, List.singleton_append, Zb8, Zb9, Zbt, List.isEmpty_nil, List.isEmpty_cons, mkVK, mkOK, Zca, Zcb, Zcc, Zcd, Zce, Zcf, List.map_cons, List.map_nil, c2, k1, k6, k7, k8, hl.vc]
      · refine brT.intro (fun c3 => ?_) (fun c3 => ?_) <;> simp only [Zaa, Zab, Zac, Zad, Zae, Zaf, Zag, Zah, Zai, go_r, Zaj, go_d, Zak, go_e, box2, Option.isSome_some, Nat.le_refl, Zal, go_o, go_g, Zam, Zan, Zao, Zap, Zaq, Zar, Zas, Zat, Zau, Zav, stp, Zaw, movK, mv1, ex, exv, exvs, Zax, Zay, ini, St.val, binK, binV, ofV, Zaz, unK, unV, beqK, beq_true, beq_false, if_true, if_false, List.getElem?_cons_zero, List.getElem?_cons_succ, ↓reduceIte, Nat.reduceEqDiff, reduceCtorEq, Za0, adr, Za1, Ad.fv, Ad.live, Za2, List.length_cons, List.length_nil, List.drop_zero, List.drop_succ_cons, List.take_succ_cons, List.take_zero, Nat.reduceAdd, Nat.reduceLeDiff, Nat.zero_add, Nat.add_zero, aeqK, agEq, scEq, Za3, Za4, exc, Za5, Za6, Za7, Za8, Za9, Zba, Zbb, Zbc, Zbd, List.reverse_cons, List.reverse_nil, List.nil_append, List.cons_append, extK, Bool.and_true, Bool.true_and, Bool.not_true, Bool.not_false, resT, Zbe, resV, true_and, and_true, Zbf, Zbg, Zbh, Zbi, Zbj, Zbk, Zbl, Zbm, Zbn, Zbo, Zbp, Zbq, Zbr, Zbs, Zbt, implies_true, Bool.and_self, Zbu, Zbv, Zbw, Zbx, Zby, Zbz, Zb0, Zb1, Zb2, List.take_length, decide_true, decide_false, Option.some.injEq, Value.bool.injEq, Value.int.injEq, Bool.false_and, Bool.and_false, not_false_eq_true, not_true_eq_false, Zb3, List.length_set, Nat.reduceMul, Bool.not_eq_true, Bool.not_eq_false, List.all_cons, List.all_nil, exps, Zb4, Zb5, strK, Zb6, fnK, Zb7, List.size_toArray, List.append_nil, List.singleton_append, Zb8, Zb9, Zbt, List.isEmpty_nil, List.isEmpty_cons, mkVK, mkOK, Zca, Zcb, Zcc, Zcd, Zce, Zcf, List.map_cons, List.map_nil, c2, c3, k1, k6, k7, k8, hl.vc]
        · have hi0 : 0 < i := by have := of_decide_eq_true c3; omega
          have hil1 : i - 1 < l.length := by omega
          obtain ⟨id', p', o', ho', hr', hp', hia'⟩ := hl.elem (List.getElem?_eq_getElem hil1)
          unfold En at hr'
          have ho1 : o'[p']? = some (.int .i64 l[i - 1].1) := by simpa [eRw] using getElem?_of_take hr' (j := 0) (by omega)
          have w2 : IntKind.i64.wrap ((i : Int) - 1) = ((i - 1 : Nat) : Int) := by rw [wrap64 _ (by omega) (by omega)]; omega
          simp only [Zaa, Zab, Zac, Zad, Zae, Zaf, Zag, Zah, Zai, go_r, Zaj, go_d, Zak, go_e, box2, Option.isSome_some, Nat.le_refl, Zal, go_o, go_g, Zam, Zan, Zao, Zap, Zaq, Zar, Zas, Zat, Zau, Zav, stp, Zaw, movK, mv1, ex, exv, exvs, Zax, Zay, ini, St.val, binK, binV, ofV, Zaz, unK, unV, beqK, beq_true, beq_false, if_true, if_false, List.getElem?_cons_zero, List.getElem?_cons_succ, ↓reduceIte, Nat.reduceEqDiff, reduceCtorEq, Za0, adr, Za1, Ad.fv, Ad.live, Za2, List.length_cons, List.length_nil, List.drop_zero, List.drop_succ_cons, List.take_succ_cons, List.take_zero, Nat.reduceAdd, Nat.reduceLeDiff, Nat.zero_add, Nat.add_zero, aeqK, agEq, scEq, Za3, Za4, exc, Za5, Za6, Za7, Za8, Za9, Zba, Zbb, Zbc, Zbd, List.reverse_cons, List.reverse_nil, List.nil_append, List.cons_append, extK, Bool.and_true, Bool.true_and, Bool.not_true, Bool.not_false, resT, Zbe, resV, true_and, and_true, Zbf, Zbg, Zbh, Zbi, Zbj, Zbk, Zbl, Zbm, Zbn, Zbo, Zbp, Zbq, Zbr, Zbs, Zbt, implies_true, Bool.and_self, Zbu, Zbv, Zbw, Zbx, Zby, Zbz, Zb0, Zb1, Zb2, List.take_length, decide_true, decide_false, Option.some.injEq, Value.bool.injEq, Value.int.injEq, Bool.false_and, Bool.and_false, not_false_eq_true, not_true_eq_false, Zb3, List.length_set, Nat.reduceMul, Bool.not_eq_true, Bool.not_eq_false, List.all_cons, List.all_nil, exps, Zb4, Zb5, strK, Zb6, fnK, Zb7, List.size_toArray, List.append_nil, List.singleton_append, Zb8, Zb9, Zbt, List.isEmpty_nil, List.isEmpty_cons, mkVK, mkOK, Zca, Zcb, Zcc, Zcd, Zce, Zcf, List.map_cons, List.map_nil, c2, c3, k1, k6, k7, k8, hl.vc, w2, hia', hH, ho', ho1]
          refine ⟨by rfl, ?_⟩
          refine brT.intro (fun c4 => ?_) (fun c4 => ?_) <;> simp only [Zaa, Zab, Zac, Zad, Zae, Zaf, Zag, Zah, Zai, go_r, Zaj, go_d, Zak, go_e, box2, Option.isSome_some, Nat.le_refl, Zal, go_o, go_g, Zam, Zan, Zao, Zap, Zaq, Zar, Zas, Zat, Zau, Zav, stp, Zaw, movK, mv1, ex, exv, exvs, Zax, Zay, ini, St.val, binK, binV, ofV, Zaz, unK, unV, beqK, beq_true, beq_false, if_true, if_false, List.getElem?_cons_zero, List.getElem?_cons_succ, ↓reduceIte, Nat.reduceEqDiff, reduceCtorEq, Za0, adr, Za1, Ad.fv, Ad.live, Za2, List.length_cons, List.length_nil, List.drop_zero, List.drop_succ_cons, List.take_succ_cons, List.take_zero, Nat.reduceAdd, Nat.reduceLeDiff, Nat.zero_add, Nat.add_zero, aeqK, agEq, scEq, Za3, Za4, exc, Za5, Za6, Za7, Za8, Za9, Zba, Zbb, Zbc, Zbd, List.reverse_cons, List.reverse_nil, List.nil_append, List.cons_append, extK, Bool.and_true, Bool.true_and, Bool.not_true, Bool.not_false, resT, Zbe, resV, true_and, and_true, Zbf, Zbg, Zbh, Zbi, Zbj, Zbk, Zbl, Zbm, Zbn, Zbo, Zbp, Zbq, Zbr, Zbs, Zbt, implies_true, Bool.and_self, Zbu, Zbv, Zbw, Zbx, Zby, Zbz, Zb0, Zb1, Zb2, List.take_length, decide_true, decide_false, Option.some.injEq, Value.bool.injEq, Value.int.injEq, Bool.false_and, Bool.and_false, not_false_eq_true, not_true_eq_false, Zb3, List.length_set, Nat.reduceMul, Bool.not_eq_true, Bool.not_eq_false, List.all_cons, List.all_nil, exps, Zb4, Zb5, strK, Zb6, fnK, Zb7, List.size_toArray, List.append_nil, List.singleton_append, Zb8, Zb9, Zbt, List.isEmpty_nil, List.isEmpty_cons, mkVK, mkOK, Zca, Zcb, Zcc, Zcd, Zce, Zcf, List.map_cons, List.map_nil, k1, k6, k7, k8, w1]
          · have c4' := of_decide_eq_true c4
            rw [bsOk_no (hno fun h => by have := (hat.1 h).2 hi0; omega)]
          · have c4' := of_decide_eq_false c4
            refine ⟨hil, by simp, fun j hj => ?_⟩
            by_cases e : j = i
            · subst e
              exact hat.2 ⟨c2, fun _ => by omega⟩
            · exact kok j (by omega)
        · have hi0 : i = 0 := by have := of_decide_eq_false c3; omega
          refine ⟨by rfl, ?_⟩
          simp only [Zaa, Zab, Zac, Zad, Zae, Zaf, Zag, Zah, Zai, go_r, Zaj, go_d, Zak, go_e, box2, Option.isSome_some, Nat.le_refl, Zal, go_o, go_g, Zam, Zan, Zao, Zap, Zaq, Zar, Zas, Zat, Zau, Zav, stp, Zaw, movK, mv1, ex, exv, exvs, Zax, Zay, ini, St.val, binK, binV, ofV, Zaz, unK, unV, beqK, beq_true, beq_false, if_true, if_false, List.getElem?_cons_zero, List.getElem?_cons_succ, ↓reduceIte, Nat.reduceEqDiff, reduceCtorEq, Za0, adr, Za1, Ad.fv, Ad.live, Za2, List.length_cons, List.length_nil, List.drop_zero, List.drop_succ_cons, List.take_succ_cons, List.take_zero, Nat.reduceAdd, Nat.reduceLeDiff, Nat.zero_add, Nat.add_zero, aeqK, agEq, scEq, Za3, Za4, exc, Za5, Za6, Za7, Za8, Za9, Zba, Zbb, Zbc, Zbd, List.reverse_cons, List.reverse_nil, List.nil_append, List.cons_append, extK, Bool.and_true, Bool.true_and, Bool.not_true, Bool.not_false, resT, Zbe, resV, true_and, and_true, Zbf, Zbg, Zbh, Zbi, Zbj, Zbk, Zbl, Zbm, Zbn, Zbo, Zbp, Zbq, Zbr, Zbs, Zbt, implies_true, Bool.and_self, Zbu, Zbv, Zbw, Zbx, Zby, Zbz, Zb0, Zb1, Zb2, List.take_length, decide_true, decide_false, Option.some.injEq, Value.bool.injEq, Value.int.injEq, Bool.false_and, Bool.and_false, not_false_eq_true, not_true_eq_false, Zb3, List.length_set, Nat.reduceMul, Bool.not_eq_true, Bool.not_eq_false, List.all_cons, List.all_nil, exps, Zb4, Zb5, strK, Zb6, fnK, Zb7, List.size_toArray, List.append_nil, List.singleton_append, Zb8, Zb9, Zbt, List.isEmpty_nil, List.isEmpty_cons, mkVK, mkOK, Zca, Zcb, Zcc, Zcd, Zce, Zcf, List.map_cons, List.map_nil, k1, k6, k7, k8, w1]
          refine ⟨hil, by simp, fun j hj => ?_⟩
          by_cases e : j = i
          · subst e
            exact hat.2 ⟨c2, fun h => by omega⟩
          · exact kok j (by omega)
      · refine ⟨by rfl, ?_⟩
        rw [bsOk_no (hno fun h => by have := (hat.1 h).1; rw [this] at c2; cases c2)]
    · have : i = l.length := by have := of_decide_eq_false c1; omega
      subst this
      exact ⟨hH, kok⟩
  · rintro s ⟨hH, k1, kok⟩
    simp only [Zaa, Zab, Zac, Zad, Zae, Zaf, Zag, Zah, Zai, go_r, Zaj, go_d, Zak, go_e, box2, Option.isSome_some, Nat.le_refl, Zal, go_o, go_g, Zam, Zan, Zao, Zap, Zaq, Zar, Zas, Zat, Zau, Zav, stp, Zaw, movK, mv1, ex, exv, exvs, Zax, Zay, ini, St.val, binK, binV, ofV, Zaz, unK, unV, beqK, beq_true, beq_false, if_true, if_false, List.getElem?_cons_zero, List.getElem?_cons_succ, ↓reduceIte, Nat.reduceEqDiff, reduceCtorEq, Za0, adr, Za1, Ad.fv, Ad.live, Za2, List.length_cons, List.length_nil, List.drop_zero, List.drop_succ_cons, List.take_succ_cons, List.take_zero, Nat.reduceAdd, Nat.reduceLeDiff, Nat.zero_add, Nat.add_zero, aeqK, agEq, scEq, Za3, Za4, exc, Za5, Za6, Za7, Za8, Za9, Zba, Zbb, Zbc, Zbd, List.reverse_cons, List.reverse_nil, List.nil_append, List.cons_append, extK, Bool.and_true, Bool.true_and, Bool.not_true, Bool.not_false, resT, Zbe, resV, true_and, and_true, Zbf, Zbg, Zbh, Zbi, Zbj, Zbk, Zbl, Zbm, Zbn, Zbo, Zbp, Zbq, Zbr, Zbs, Zbt, implies_true, Bool.and_self, Zbu, Zbv, Zbw, Zbx, Zby, Zbz, Zb0, Zb1, Zb2, List.take_length, decide_true, decide_false, Option.some.injEq, Value.bool.injEq, Value.int.injEq, Bool.false_and, Bool.and_false, not_false_eq_true, not_true_eq_false, Zb3, List.length_set, Nat.reduceMul, Bool.not_eq_true, Bool.not_eq_false, List.all_cons, List.all_nil, exps, Zb4, Zb5, strK, Zb6, fnK, Zb7, List.size_toArray, List.append_nil, List.singleton_append, Zb8, Zb9, Zbt, List.isEmpty_nil, List.isEmpty_cons, mkVK, mkOK, Zca, Zcb, Zcc, Zcd, Zce, Zcf, List.map_cons, List.map_nil, hH, k1, hl.vc, hl.len]
    refine brT.intro (fun h1 => ?_) (fun h1 => ?_) <;> simp only [Zaa, Zab, Zac, Zad, Zae, Zaf, Zag, Zah, Zai, go_r, Zaj, go_d, Zak, go_e, box2, Option.isSome_some, Nat.le_refl, Zal, go_o, go_g, Zam, Zan, Zao, Zap, Zaq, Zar, Zas, Zat, Zau, Zav, stp, Zaw, movK, mv1, ex, exv, exvs, Zax, Zay, ini, St.val, binK, binV, ofV, Zaz, unK, unV, beqK, beq_true, beq_false, if_true, if_false, List.getElem?_cons_zero, List.getElem?_cons_succ, ↓reduceIte, Nat.reduceEqDiff, reduceCtorEq, Za0, adr, Za1, Ad.fv, Ad.live, Za2, List.length_cons, List.length_nil, List.drop_zero, List.drop_succ_cons, List.take_succ_cons, List.take_zero, Nat.reduceAdd, Nat.reduceLeDiff, Nat.zero_add, Nat.add_zero, aeqK, agEq, scEq, Za3, Za4, exc, Za5, Za6, Za7, Za8, Za9, Zba, Zbb, Zbc, Zbd, List.reverse_cons, List.reverse_nil, List.nil_append, List.cons_append, extK, Bool.and_true, Bool.true_and, Bool.not_true, Bool.not_false, resT, Zbe, resV, true_and, and_true, Zbf, Zbg, Zbh, Zbi, Zbj, Zbk, Zbl, Zbm, Zbn, Zbo, Zbp, Zbq, Zbr, Zbs, Zbt, implies_true, Bool.and_self, Zbu, Zbv, Zbw, Zbx, Zby, Zbz, Zb0, Zb1, Zb2, List.take_length, decide_true, decide_false, Option.some.injEq, Value.bool.injEq, Value.int.injEq, Bool.false_and, Bool.and_false, not_false_eq_true, not_true_eq_false, Zb3, List.length_set, Nat.reduceMul, Bool.not_eq_true, Bool.not_eq_false, List.all_cons, List.all_nil, exps, Zb4, Zb5, strK, Zb6, fnK, Zb7, List.size_toArray, List.append_nil, List.singleton_append, Zb8, Zb9, Zbt, List.isEmpty_nil, List.isEmpty_cons, mkVK, mkOK, Zca, Zcb, Zcc, Zcd, Zce, Zcf, List.map_cons, List.map_nil, h1, k1, hl.vc, c62', hw, hH]
    · have h1' := of_decide_eq_true h1
      cases h : (decide (q ≥ 0) && decide (q ≤ 100000)) with
      | true =>
        have h2 : 0 ≤ q ∧ q ≤ 100000 := by simpa using h
        rw [bsOk_yes ⟨by omega, h2, kok⟩]
      | false =>
        have h2 : ¬ (0 ≤ q ∧ q ≤ 100000) := by simpa using h
        rw [bsOk_no fun h => h2 h.2.1]
    · have h1' := of_decide_eq_false h1
      rw [bsOk_no fun h => by have := h.1; omega]
end Go.Proofs.Ytokicdkdllndpaa.Ev

/- The text of a store; comparisons. -/
namespace Go.Proofs.Ytokicdkdllndpaa.Ev
set_option linter.all false
open Go
set_option maxRecDepth 4000

def offB (b : Bool) : ByteArray := if b = true then ⟨#[1]⟩ else ⟨#[0]⟩
theorem offB_size (b : Bool) : (offB b).size = 1 := by cases b <;> rfl
noncomputable def addR (s : ByteArray) (z : Rw) : ByteArray := s ++ varB z.1 ++ varB z.2.1 ++ varB z.2.2.1 ++ offB z.2.2.2
noncomputable def showN (q : Int) (l : List Rw) (i : Nat) : ByteArray := (l.take i).foldl addR (varB q ++ varB l.length)
noncomputable def showB (q : Int) (l : List Rw) : ByteArray := if bsOk q l = true then showN q l l.length else ⟨#[]⟩
theorem addR_size (s : ByteArray) (z : Rw) : (addR s z).size ≤ s.size + 22 := by
  have h1 := varB_size z.1; have h2 := varB_size z.2.1; have h3 := varB_size z.2.2.1; have h4 := offB_size z.2.2.2
  unfold addR
  rw [app_size, app_size, app_size, app_size]
  omega
theorem showN_succ {q : Int} {l : List Rw} {i : Nat} (h : i < l.length) : showN q l (i + 1) = addR (showN q l i) l[i] := by
  unfold showN
  rw [List.take_succ_eq_append_getElem h, List.foldl_append]
  rfl
theorem showN_size {q : Int} {l : List Rw} : ∀ {i : Nat}, i ≤ l.length → (showN q l i).size ≤ 14 + 22 * i
  | 0, _ => by
    have h1 := varB_size q; have h2 := varB_size (l.length : Int)
    unfold showN
    simp only [List.take_zero, List.foldl_nil]
    rw [app_size]
    omega
  | i + 1, h => by
    have := showN_size (q := q) (l := l) (i := i) (by omega)
    rw [showN_succ (by omega)]
    have := addR_size (showN q l i) l[i]
    omega

theorem f18 {H : Hp} {q : Int} {v : Value} {l : List Rw} (hl : SlRw H v l) : Scal EE 18 [.agg #[.int .i64 q, v]] H (.string (showB q l)) := by
  refine scal_ok rfl rfl k18 (by simp [c18]) rfl fun m hw => ?_
  have a14 := fun {m draw t d ts Q} => callT_at (m := m) (draw := draw) (s := t) (d := d) (ts := ts) (Q := Q) (f14 (q := q) hl)
  have a64 := fun {n m draw t d ts Q} => callT_at (m := m) (draw := draw) (s := t) (d := d) (ts := ts) (Q := Q) (f64 (H := H) (n := n))
  simp only [Zaa, Zab, Zac, Zad, Zae, Zaf, Zag, Zah, Zai, go_r, Zaj, go_d, Zak, go_e, box2, Option.isSome_some, Nat.le_refl, Zal, go_o, go_g, Zam, Zan, Zao, Zap, Zaq, Zar, Zas, Zat, Zau, Zav, stp, Zaw, movK, mv1, ex, exv, exvs, Zax, Zay, ini, St.val, binK, binV, ofV, Zaz, unK, unV, beqK, beq_true, beq_false, if_true, if_false, List.getElem?_cons_zero, List.getElem?_cons_succ, ↓reduceIte, Nat.reduceEqDiff, reduceCtorEq, Za0, adr, Za1, Ad.fv, Ad.live, Za2, List.length_cons, List.length_nil, List.drop_zero, List.drop_succ_cons, List.take_succ_cons, List.take_zero, Nat.reduceAdd, Nat.reduceLeDiff, Nat.zero_add, Nat.add_zero, aeqK, agEq, scEq, Za3, Za4, exc, Za5, Za6, Za7, Za8, Za9, Zba, Zbb, Zbc, Zbd, List.reverse_cons, List.reverse_nil, List.nil_append, List.cons_append, extK, Bool.and_true, Bool.true_and, Bool.not_true, Bool.not_false, resT, Zbe, resV, true_and, and_true, Zbf, Zbg, Zbh, Zbi, Zbj, Zbk, Zbl, Zbm, Zbn, Zbo, Zbp, Zbq, Zbr, Zbs, Zbt, implies_true, Bool.and_self, Zbu, Zbv, Zbw, Zbx, Zby, Zbz, Zb0, Zb1, Zb2, List.take_length, decide_true, decide_false, Option.some.injEq, Value.bool.injEq, Value.int.injEq, Bool.false_and, Bool.and_false, not_false_eq_true, not_true_eq_false, Zb3, List.length_set, Nat.reduceMul, Bool.not_eq_true, Bool.not_eq_false, List.all_cons, List.all_nil, exps, Zb4, Zb5, strK, Zb6, fnK, Zb7, List.size_toArray, List.append_nil, List.singleton_append, Zb8, Zb9, Zbt, List.isEmpty_nil, List.isEmpty_cons, mkVK, mkOK, Zca, Zcb, Zcc, Zcd, Zce, Zcf, List.map_cons, List.map_nil, c18, hl.vc, a14, hw]
  unfold showB
  cases hB : bsOk q l with
  | false => simp only [Zaa, Zab, Zac, Zad, Zae, Zaf, Zag, Zah, Zai, go_r, Zaj, go_d, Zak, go_e, box2, Option.isSome_some, Nat.le_refl, Zal, go_o, go_g, Zam, Zan, Zao, Zap, Zaq, Zar, Zas, Zat, Zau, Zav, stp, Zaw, movK, mv1, ex, exv, exvs, Zax, Zay, ini, St.val, binK, binV, ofV, Zaz, unK, unV, beqK, beq_true, beq_false, if_true, if_false, List.getElem?_cons_zero, List.getElem?_cons_succ, ↓reduceIte, Nat.reduceEqDiff, reduceCtorEq, Za0, adr, Za1, Ad.fv, Ad.live, Za2, List.length_cons, List.length_nil, List.drop_zero, List.drop_succ_cons, List.take_succ_cons, List.take_zero, Nat.reduceAdd, Nat.reduceLeDiff, Nat.zero_add, Nat.add_zero, aeqK, agEq, scEq, Za3, Za4, exc, Za5, Za6, Za7, Za8, Za9, Zba, Zbb, Zbc, Zbd, List.reverse_cons, List.reverse_nil, List.nil_append, List.cons_append, extK, Bool.and_true, Bool.true_and, Bool.not_true, Bool.not_false, resT, Zbe, resV, true_and, and_true, Zbf, Zbg, Zbh, Zbi, Zbj, Zbk, Zbl, Zbm, Zbn, Zbo, Zbp, Zbq, Zbr, Zbs, Zbt, implies_true, Bool.and_self, Zbu, Zbv, Zbw, Zbx, Zby, Zbz, Zb0, Zb1, Zb2, List.take_length, decide_true, decide_false, Option.some.injEq, Value.bool.injEq, Value.int.injEq, Bool.false_and, Bool.and_false, not_false_eq_true, not_true_eq_false, Zb3, List.length_set, Nat.reduceMul, Bool.not_eq_true, Bool.not_eq_false, List.all_cons, List.all_nil, exps, Zb4, Zb5, strK, Zb6, fnK, Zb7, List.size_toArray, List.append_nil, List.singleton_append, Zb8, Zb9, Zbt, List.isEmpty_nil, List.isEmpty_cons, mkVK, mkOK, Zca, Zcb, Zcc, Zcd, Zce, Zcf, List.map_cons, List.map_nil, hB]
  | true =>
    have hok := bsOk_t.1 hB
    have h12 := hok.1
    have z1 := varB_size q
    have z2 := varB_size (l.length : Int)
    have hz : (varB q).size + (varB (l.length : Int)).size ≤ 9223372036854775807 := by omega
    simp only [Zaa, Zab, Zac, Zad, Zae, Zaf, Zag, Zah, Zai, go_r, Zaj, go_d, Zak, go_e, box2, Option.isSome_some, Nat.le_refl, Zal, go_o, go_g, Zam, Zan, Zao, Zap, Zaq, Zar, Zas, Zat, Zau, Zav, stp, Zaw, movK, mv1, ex, exv, exvs, Zax, Zay, ini, St.val, binK, binV, ofV, Zaz, unK, unV, beqK, beq_true, beq_false, if_true, if_false, List.getElem?_cons_zero, List.getElem?_cons_succ, ↓reduceIte, Nat.reduceEqDiff, reduceCtorEq, Za0, adr, Za1, Ad.fv, Ad.live, Za2, List.length_cons, List.length_nil, List.drop_zero, List.drop_succ_cons, List.take_succ_cons, List.take_zero, Nat.reduceAdd, Nat.reduceLeDiff, Nat.zero_add, Nat.add_zero, aeqK, agEq, scEq, Za3, Za4, exc, Za5, Za6, Za7, Za8, Za9, Zba, Zbb, Zbc, Zbd, List.reverse_cons, List.reverse_nil, List.nil_append, List.cons_append, extK, Bool.and_true, Bool.true_and, Bool.not_true, Bool.not_false, resT, Zbe, resV, true_and, and_true, Zbf, Zbg, Zbh, Zbi, Zbj, Zbk, Zbl, Zbm, Zbn, Zbo, Zbp, Zbq, Zbr, Zbs, Zbt, implies_true, Bool.and_self, Zbu, Zbv, Zbw, Zbx, Zby, Zbz, Zb0, Zb1, Zb2, List.take_length, decide_true, decide_false, Option.some.injEq, Value.bool.injEq, Value.int.injEq, Bool.false_and, Bool.and_false, not_false_eq_true, not_true_eq_false, Zb3, List.length_set, Nat.reduceMul, Bool.not_eq_true, Bool.not_eq_false, List.all_cons, List.all_nil, exps, Zb4, Zb5, strK, Zb6, fnK, Zb7, List.size_toArray, List.append_nil, List.singleton_append, Zb8, Zb9, Zbt, List.isEmpty_nil, List.isEmpty_cons, mkVK, mkOK, Zca, Zcb, Zcc, Zcd, Zce, Zcf, List.map_cons, List.map_nil, hB]
    refine go_draw ?_
    simp only [Zaa, Zab, Zac, Zad, Zae, Zaf, Zag, Zah, Zai, go_r, Zaj, go_d, Zak, go_e, box2, Option.isSome_some, Nat.le_refl, Zal, go_o, go_g, Zam, Zan, Zao, Zap, Zaq, Zar, Zas, Zat, Zau, Zav, stp, Zaw, movK, mv1, ex, exv, exvs, Zax, Zay, ini, St.val, binK, binV, ofV, Zaz, unK, unV, beqK, beq_true, beq_false, if_true, if_false, List.getElem?_cons_zero, List.getElem?_cons_succ, ↓reduceIte, Nat.reduceEqDiff, reduceCtorEq, Za0, adr, Za1, Ad.fv, Ad.live, Za2, List.length_cons, List.length_nil, List.drop_zero, List.drop_succ_cons, List.take_succ_cons, List.take_zero, Nat.reduceAdd, Nat.reduceLeDiff, Nat.zero_add, Nat.add_zero, aeqK, agEq, scEq, Za3, Za4, exc, Za5, Za6, Za7, Za8, Za9, Zba, Zbb, Zbc, Zbd, List.reverse_cons, List.reverse_nil, List.nil_append, List.cons_append, extK, Bool.and_true, Bool.true_and, Bool.not_true, Bool.not_false, resT, Zbe, resV, true_and, and_true, Zbf, Zbg, Zbh, Zbi, Zbj, Zbk, Zbl, Zbm, Zbn, Zbo, Zbp, Zbq, Zbr, Zbs, Zbt, implies_true, Bool.and_self, Zbu, Zbv, Zbw, Zbx, Zby, Zbz, Zb0, Zb1, Zb2, List.take_length, decide_true, decide_false, Option.some.injEq, Value.bool.injEq, Value.int.injEq, Bool.false_and, Bool.and_false, not_false_eq_true, not_true_eq_false, Zb3, List.length_set, Nat.reduceMul, Bool.not_eq_true, Bool.not_eq_false, List.all_cons, List.all_nil, exps, Zb4, Zb5, strK, Zb6, fnK, Zb7, List.size_toArray, List.append_nil, List.singleton_append, Zb8, Zb9, Zbt, List.isEmpty_nil, List.isEmpty_cons, mkVK, mkOK, Zca, Zcb, Zcc, Zcd, Zce, Zcf, List.map_cons, List.map_nil, hl.vc, hl.len, a64, hw, hz]
    refine ⟨by rfl, ?_⟩
    refine go_for l.length (fun i s => s.H = H ∧ s.ρ 1 = .bx 0 [.int .i64 q, v] ∧ s.ρ 4 = .val (.int .i64 i) ∧ s.ρ 3 = .val (.string (showN q l i)))
      (fun s => s.H = H ∧ s.ρ 3 = .val (.string (showN q l l.length))) ?_ ?_ ?_
    · exact ⟨rfl, by simp [upd, ini], by simp [upd], by simp [upd, showN]⟩
    · rintro i s hi ⟨hH, k1, k4, k3⟩
      simp only [Zaa, Zab, Zac, Zad, Zae, Zaf, Zag, Zah, Zai, go_r, Zaj, go_d, Zak, go_e, box2, Option.isSome_some, Nat.le_refl, Zal, go_o, go_g, Zam, Zan, Zao, Zap, Zaq, Zar, Zas, Zat, Zau, Zav, stp, Zaw, movK, mv1, ex, exv, exvs, Zax, Zay, ini, St.val, binK, binV, ofV, Zaz, unK, unV, beqK, beq_true, beq_false, if_true, if_false, List.getElem?_cons_zero, List.getElem?_cons_succ, ↓reduceIte, Nat.reduceEqDiff, reduceCtorEq, Za0, adr, Za1, Ad.fv, Ad.live, Za2, List.length_cons, List.length_nil, List.drop_zero, List.drop_succ_cons, List.take_succ_cons, List.take_zero, Nat.reduceAdd, Nat.reduceLeDiff, Nat.zero_add, Nat.add_zero, aeqK, agEq, scEq, Za3, Za4, exc, Za5, Za6, Za7, Za8, Za9, Zba, Zbb, Zbc, Zbd, List.reverse_cons, List.reverse_nil, List.nil_append, List.cons_append, extK, Bool.and_true, Bool.true_and, Bool.not_true, Bool.not_false, resT, Zbe, resV, true_and, and_true, Zbf, Zbg, Zbh, Zbi, Zbj, Zbk, Zbl, Zbm, Zbn, Zbo, Zbp, Zbq, Zbr, Zbs, Zbt, implies_true, Bool.and_self, Zbu, Zbv, Zbw, Zbx, Zby, Zbz, Zb0, Zb1, Zb2, List.take_length, decide_true, decide_false, Option.some.injEq, Value.bool.injEq, Value.int.injEq, Bool.false_and, Bool.and_false, not_false_eq_true, not_true_eq_false, Zb3, List.length_set, Nat.reduceMul, Bool.not_eq_true, Bool.not_eq_false, List.all_cons, List.all_nil, exps, Zb4, Zb5, strK, Zb6, fnK, Zb7, List.size_toArray, List.append_nil, List.singleton_append, Zb8, Zb9, Zbt, List.isEmpty_nil, List.isEmpty_cons, mkVK, mkOK, Zca, Zcb, Zcc, Zcd, Zce, Zcf, List.map_cons, List.map_nil, k1, k3, k4, hl.len, hl.vc]
      refine brT.intro (fun c1 => ?_) (fun c1 => ?_) <;> simp only [Zaa, Zab, Zac, Zad, Zae, Zaf, Zag, Zah, Zai, go_r, Zaj, go_d, Zak, go_e, box2, Option.isSome_some, Nat.le_refl, Zal, go_o, go_g, Zam, Zan, Zao, Zap, Zaq, Zar, Zas, Zat, Zau, Zav, stp, Zaw, movK, mv1, ex, exv, exvs, Zax, Zay, ini, St.val, binK, binV, ofV, Zaz, unK, unV, beqK, beq_true, beq_false, if_true, if_false, List.getElem?_cons_zero, List.getElem?_cons_succ, ↓reduceIte, Nat.reduceEqDiff, reduceCtorEq, Za0, adr, Za1, Ad.fv, Ad.live, Za2, List.length_cons, List.length_nil, List.drop_zero, List.drop_succ_cons, List.take_succ_cons, List.take_zero, Nat.reduceAdd, Nat.reduceLeDiff, Nat.zero_add, Nat.add_zero, aeqK, agEq, scEq, Za3, Za4, exc, Za5, Za6, Za7, Za8, Za9, Zba, Zbb, Zbc, Zbd, List.reverse_cons, List.reverse_nil, List.nil_append, List.cons_append, extK, Bool.and_true, Bool.true_and, Bool.not_true, Bool.not_false, resT, Zbe, resV, true_and, and_true, Zbf, Zbg, Zbh, Zbi, Zbj, Zbk, Zbl, Zbm, Zbn, Zbo, Zbp, Zbq, Zbr, Zbs, Zbt, implies_true, Bool.and_self, Zbu, Zbv, Zbw, Zbx, Zby, Zbz, Zb0, Zb1, Zb2, List.take_length, decide_true, decide_false, Option.some.injEq, Value.bool.injEq, Value.int.injEq, Bool.false_and, Bool.and_false, not_false_eq_true, not_true_eq_false, Zb3, List.length_set, Nat.reduceMul, Bool.not_eq_true, Bool.not_eq_false, List.all_cons, List.all_nil, exps, Zb4, Zb5, strK, Zb6, fnK, Zb7, List.size_toArray, List.append_nil, List.singleton_append, Zb8, Zb9, Zbt, List.isEmpty_nil, List.isEmpty_cons, mkVK, mkOK, Zca, Zcb, Zcc, Zcd, Zce, Zcf, List.map_cons, List.map_nil, k1, k3, k4]
      · have hil : i < l.length := by have := of_decide_eq_true c1; omega
        obtain ⟨id, p, o, ho, hr, hp, hia⟩ := hl.elem (List.getElem?_eq_getElem hil)
        unfold En at hr
        have hsz := showN_size (q := q) (l := l) (i := i) (by omega)
        have y1 := varB_size l[i].1
        have y2 := varB_size l[i].2.1
        have y3 := varB_size l[i].2.2.1
        have y4 := offB_size l[i].2.2.2
        have w1 : IntKind.i64.wrap ((i : Int) + 1) = (i : Int) + 1 := wrap64 _ (by omega) (by omega)
        rw [showN_succ hil]
        unfold addR
        generalize showN q l i = S at *
        generalize l[i] = z at *
        obtain ⟨z1', z2', z3', z4'⟩ := z
        simp only at y1 y2 y3 y4 hr ⊢
        have g1 : S.size + (varB z1').size ≤ 9223372036854775807 := by omega
        have g2 : (S ++ varB z1').size + (varB z2').size ≤ 9223372036854775807 := by rw [app_size]; omega
        have g3 : (S ++ varB z1' ++ varB z2').size + (varB z3').size ≤ 9223372036854775807 := by rw [app_size, app_size]; omega
        have g4 : (S ++ varB z1' ++ varB z2' ++ varB z3').size + (offB z4').size ≤ 9223372036854775807 := by rw [app_size, app_size, app_size]; omega
        simp only [Zaa, Zab, Zac, Zad, Zae, Zaf, Zag, Zah, Zai, go_r, Zaj, go_d, Zak, go_e, box2, Option.isSome_some, Nat.le_refl, Zal, go_o, go_g, Zam, Zan, Zao, Zap, Zaq, Zar, Zas, Zat, Zau, Zav, stp, Zaw, movK, mv1, ex, exv, exvs, Zax, Zay, ini, St.val, binK, binV, ofV, Zaz, unK, unV, beqK, beq_true, beq_false, if_true, if_false, List.getElem?_cons_zero, List.getElem?_cons_succ, ↓reduceIte, Nat.reduceEqDiff, reduceCtorEq, Za0, adr, Za1, Ad.fv, Ad.live, Za2, List.length_cons, List.length_nil, List.drop_zero, List.drop_succ_cons, List.take_succ_cons, List.take_zero, Nat.reduceAdd, Nat.reduceLeDiff, Nat.zero_add, Nat.add_zero, aeqK, agEq, scEq, Za3, Za4, exc, Za5, Za6, Za7, Za8, Za9, Zba, Zbb, Zbc, Zbd, List.reverse_cons, List.reverse_nil, List.nil_append, List.cons_append, extK, Bool.and_true, Bool.true_and, Bool.not_true, Bool.not_false, resT, Zbe, resV, true_and, and_true, Zbf, Zbg, Zbh, Zbi, Zbj, Zbk, Zbl, Zbm, Zbn, Zbo, Zbp, Zbq, Zbr, Zbs, Zbt, implies_true, Bool.and_self, Zbu, Zbv, Zbw, Zbx, Zby, Zbz, Zb0, Zb1, Zb2, List.take_length, decide_true, decide_false, Option.some.injEq, Value.bool.injEq, Value.int.injEq, Bool.false_and, Bool.and_false, not_false_eq_true, not_true_eq_false, Zb3, List.length_set, Nat.reduceMul, Bool.not_eq_true, Bool.not_eq_false, List.all_cons, List.all_nil, exps, Zb4, Zb5, strK, Zb6, fnK, Zb7, List.size_toArray, List.append_nil, List.singleton_append, Zb8, Zb9, Zbt, List.isEmpty_nil, List.isEmpty_cons, mkVK, mkOK, Zca, Zcb, Zcc, Zcd, Zce, Zcf, List.map_cons, List.map_nil, k1, k3, k4, hl.vc, hia, hH, ho, hr, hp, eRw]
        cases z4' with
        | true =>
          have e4 : offB true = ⟨#[1]⟩ := rfl
          rw [e4] at g4 ⊢
          simp only [Zaa, Zab, Zac, Zad, Zae, Zaf, Zag, Zah, Zai, go_r, Zaj, go_d, Zak, go_e, box2, Option.isSome_some, Nat.le_refl, Zal, go_o, go_g, Zam, Zan, Zao, Zap, Zaq, Zar, Zas, Zat, Zau, Zav, stp, Zaw, movK, mv1, ex, exv, exvs, Zax, Zay, ini, St.val, binK, binV, ofV, Zaz, unK, unV, beqK, beq_true, beq_false, if_true, if_false, List.getElem?_cons_zero, List.getElem?_cons_succ, ↓reduceIte, Nat.reduceEqDiff, reduceCtorEq, Za0, adr, Za1, Ad.fv, Ad.live, Za2, List.length_cons, List.length_nil, List.drop_zero, List.drop_succ_cons, List.take_succ_cons, List.take_zero, Nat.reduceAdd, Nat.reduceLeDiff, Nat.zero_add, Nat.add_zero, aeqK, agEq, scEq, Za3, Za4, exc, Za5, Za6, Za7, Za8, Za9, Zba, Zbb, Zbc, Zbd, List.reverse_cons, List.reverse_nil, List.nil_append, List.cons_append, extK, Bool.and_true, Bool.true_and, Bool.not_true, Bool.not_false, resT, Zbe, resV, true_and, and_true, Zbf, Zbg, Zbh, Zbi, Zbj, Zbk, Zbl, Zbm, Zbn, Zbo, Zbp, Zbq, Zbr, Zbs, Zbt, implies_true, Bool.and_self, Zbu, Zbv, Zbw, Zbx, Zby, Zbz, Zb0, Zb1, Zb2, List.take_length, decide_true, decide_false, Option.some.injEq, Value.bool.injEq, Value.int.injEq, Bool.false_and, Bool.and_false, not_false_eq_true, not_true_eq_false, Zb3, List.length_set, Nat.reduceMul, Bool.not_eq_true, Bool.not_eq_false, List.all_cons, List.all_nil, exps, Zb4, Zb5, strK, Zb6, fnK, Zb7, List.size_toArray, List.append_nil, List.singleton_append, Zb8, Zb9, Zbt, List.isEmpty_nil, List.isEmpty_cons, mkVK, mkOK, Zca, Zcb, Zcc, Zcd, Zce, Zcf, List.map_cons, List.map_nil, k1, k3, k4]
          refine go_draw ?_
          simp only [Zaa, Zab, Zac, Zad, Zae, Zaf, Zag, Zah, Zai, go_r, Zaj, go_d, Zak, go_e, box2, Option.isSome_some, Nat.le_refl, Zal, go_o, go_g, Zam, Zan, Zao, Zap, Zaq, Zar, Zas, Zat, Zau, Zav, stp, Zaw, movK, mv1, ex, exv, exvs, Zax, Zay, ini, St.val, binK, binV, ofV, Zaz, unK, unV, beqK, beq_true, beq_false, if_true, if_false, List.getElem?_cons_zero, List.getElem?_cons_succ, ↓reduceIte, Nat.reduceEqDiff, reduceCtorEq, Za0, adr, Za1, Ad.fv, Ad.live, Za2, List.length_cons, List.length_nil, List.drop_zero, List.drop_succ_cons, List.take_succ_cons, List.take_zero, Nat.reduceAdd, Nat.reduceLeDiff, Nat.zero_add, Nat.add_zero, aeqK, agEq, scEq, Za3, Za4, exc, Za5, Za6, Za7, Za8, Za9, Zba, Zbb, Zbc, Zbd, List.reverse_cons, List.reverse_nil, List.nil_append, List.cons_append, extK, Bool.and_true, Bool.true_and, Bool.not_true, Bool.not_false, resT, Zbe, resV, true_and, and_true, Zbf, Zbg, Zbh, Zbi, Zbj, Zbk, Zbl, Zbm, Zbn, Zbo, Zbp, Zbq, Zbr, Zbs, Zbt, implies_true, Bool.and_self, Zbu, Zbv, Zbw, Zbx, Zby, Zbz, Zb0, Zb1, Zb2, List.take_length, decide_true, decide_false, Option.some.injEq, Value.bool.injEq, Value.int.injEq, Bool.false_and, Bool.and_false, not_false_eq_true, not_true_eq_false, Zb3, List.length_set, Nat.reduceMul, Bool.not_eq_true, Bool.not_eq_false, List.all_cons, List.all_nil, exps, Zb4, Zb5, strK, Zb6, fnK, Zb7, List.size_toArray, List.append_nil, List.singleton_append, Zb8, Zb9, Zbt, List.isEmpty_nil, List.isEmpty_cons, mkVK, mkOK, Zca, Zcb, Zcc, Zcd, Zce, Zcf, List.map_cons, List.map_nil, k1, k3, k4, a64, hw, g1, g2, g3, g4, hH]
          refine ⟨by rfl, ?_⟩
          simp only [Zaa, Zab, Zac, Zad, Zae, Zaf, Zag, Zah, Zai, go_r, Zaj, go_d, Zak, go_e, box2, Option.isSome_some, Nat.le_refl, Zal, go_o, go_g, Zam, Zan, Zao, Zap, Zaq, Zar, Zas, Zat, Zau, Zav, stp, Zaw, movK, mv1, ex, exv, exvs, Zax, Zay, ini, St.val, binK, binV, ofV, Zaz, unK, unV, beqK, beq_true, beq_false, if_true, if_false, List.getElem?_cons_zero, List.getElem?_cons_succ, ↓reduceIte, Nat.reduceEqDiff, reduceCtorEq, Za0, adr, Za1, Ad.fv, Ad.live, Za2, List.length_cons, List.length_nil, List.drop_zero, List.drop_succ_cons, List.take_succ_cons, List.take_zero, Nat.reduceAdd, Nat.reduceLeDiff, Nat.zero_add, Nat.add_zero, aeqK, agEq, scEq, Za3, Za4, exc, Za5, Za6, Za7, Za8, Za9, Zba, Zbb, Zbc, Zbd, List.reverse_cons, List.reverse_nil, List.nil_append, List.cons_append, extK, Bool.and_true, Bool.true_and, Bool.not_true, Bool.not_false, resT, Zbe, resV, true_and, and_true, Zbf, Zbg, Zbh, Zbi, Zbj, Zbk, Zbl, Zbm, Zbn, Zbo, Zbp, Zbq, Zbr, Zbs, Zbt, implies_true, Bool.and_self, Zbu, Zbv, Zbw, Zbx, Zby, Zbz, Zb0, Zb1, Zb2, List.take_length, decide_true, decide_false, Option.some.injEq, Value.bool.injEq, Value.int.injEq, Bool.false_and, Bool.and_false, not_false_eq_true, not_true_eq_false, Zb3, List.length_set, Nat.reduceMul, Bool.not_eq_true, Bool.not_eq_false, List.all_cons, List.all_nil, exps, Zb4, Zb5, strK, Zb6, fnK, Zb7, List.size_toArray, List.append_nil, List.singleton_append, Zb8, Zb9, Zbt, List.isEmpty_nil, List.isEmpty_cons, mkVK, mkOK, Zca, Zcb, Zcc, Zcd, Zce, Zcf, List.map_cons, List.map_nil, k1, k3, k4, w1]
          exact ⟨hil, by simp⟩
        | false =>
          have e4 : offB false = ⟨#[0]⟩ := rfl
          rw [e4] at g4 ⊢
          simp only [Zaa, Zab, Zac, Zad, Zae, Zaf, Zag, Zah, Zai, go_r, Zaj, go_d, Zak, go_e, box2, Option.isSome_some, Nat.le_refl, Zal, go_o, go_g, Zam, Zan, Zao, Zap, Zaq, Zar, Zas, Zat, Zau, Zav, stp, Zaw, movK, mv1, ex, exv, exvs, Zax, Zay, ini, St.val, binK, binV, ofV, Zaz, unK, unV, beqK, beq_true, beq_false, if_true, if_false, List.getElem?_cons_zero, List.getElem?_cons_succ, ↓reduceIte, Nat.reduceEqDiff, reduceCtorEq, Za0, adr, Za1, Ad.fv, Ad.live, Za2, List.length_cons, List.length_nil, List.drop_zero, List.drop_succ_cons, List.take_succ_cons, List.take_zero, Nat.reduceAdd, Nat.reduceLeDiff, Nat.zero_add, Nat.add_zero, aeqK, agEq, scEq, Za3, Za4, exc, Za5, Za6, Za7, Za8, Za9, Zba, Zbb, Zbc, Zbd, List.reverse_cons, List.reverse_nil, List.nil_append, List.cons_append, extK, Bool.and_true, Bool.true_and, Bool.not_true, Bool.not_false, resT, Zbe, resV, true_and, and_true, Zbf, Zbg, Zbh, Zbi, Zbj, Zbk, Zbl, Zbm, Zbn, Zbo, Zbp, Zbq, Zbr, Zbs, Zbt, implies_true, Bool.and_self, Zbu, Zbv, Zbw, Zbx, Zby, Zbz, Zb0, Zb1, Zb2, List.take_length, decide_true, decide_false, Option.some.injEq, Value.bool.injEq, Value.int.injEq, Bool.false_and, Bool.and_false, not_false_eq_true, not_true_eq_false, Zb3, List.length_set, Nat.reduceMul, Bool.not_eq_true, Bool.not_eq_false, List.all_cons, List.all_nil, exps, Zb4, Zb5, strK, Zb6, fnK, Zb7, List.size_toArray, List.append_nil, List.singleton_append, Zb8, Zb9, Zbt, List.isEmpty_nil, List.isEmpty_cons, mkVK, mkOK, Zca, Zcb, Zcc, Zcd, Zce, Zcf, List.map_cons, List.map_nil, k1, k3, k4]
          refine go_draw ?_
          simp only [Zaa, Zab, Zac, Zad, Zae, Zaf, Zag, Zah, Zai, go_r, Zaj, go_d, Zak, go_e, box2, Option.isSome_some, Nat.le_refl, Zal, go_o, go_g, Zam, Zan, Zao, Zap, Zaq, Zar, Zas, Zat, Zau, Zav, stp, Zaw, movK, mv1, ex, exv, exvs, Zax, Zay, ini, St.val, binK, binV, ofV, Zaz, unK, unV, beqK, beq_true, beq_false, if_true, if_false, List.getElem?_cons_zero, List.getElem?_cons_succ, ↓reduceIte, Nat.reduceEqDiff, reduceCtorEq, Za0, adr, Za1, Ad.fv, Ad.live, Za2, List.length_cons, List.length_nil, List.drop_zero, List.drop_succ_cons, List.take_succ_cons, List.take_zero, Nat.reduceAdd, Nat.reduceLeDiff, Nat.zero_add, Nat.add_zero, aeqK, agEq, scEq, Za3, Za4, exc, Za5, Za6, Za7, Za8, Za9, Zba, Zbb, Zbc, Zbd, List.reverse_cons, List.reverse_nil, List.nil_append, List.cons_append, extK, Bool.and_true, Bool.true_and, Bool.not_true, Bool.not_false, resT, Zbe, resV, true_and, and_true, Zbf, Zbg, Zbh, Zbi, Zbj, Zbk, Zbl, Zbm, Zbn, Zbo, Zbp, Zbq, Zbr, Zbs, Zbt, implies_true, Bool.and_self, Zbu, Zbv, Zbw, Zbx, Zby, Zbz, Zb0, Zb1, Zb2, List.take_length, decide_true, decide_false, Option.some.injEq, Value.bool.injEq, Value.int.injEq, Bool.false_and, Bool.and_false, not_false_eq_true, not_true_eq_false, Zb3, List.length_set, Nat.reduceMul, Bool.not_eq_true, Bool.not_eq_false, List.all_cons, List.all_nil, exps, Zb4, Zb5, strK, Zb6, fnK, Zb7, List.size_toArray, List.append_nil, List.singleton_append, Zb8, Zb9, Zbt, List.isEmpty_nil, List.isEmpty_cons, mkVK, mkOK, Zca, Zcb, Zcc, Zcd, Zce, Zcf, List.map_cons, List.map_nil, k1, k3, k4, a64, hw, g1, g2, g3, g4, hH]
          refine ⟨by rfl, ?_⟩
          simp only [Zaa, Zab, Zac, Zad, Zae, Zaf, Zag, Zah, Zai, go_r, Zaj, go_d, Zak, go_e, box2, Option.isSome_some, Nat.le_refl, Zal, go_o, go_g, Zam, Zan, Zao, Zap, Zaq, Zar, Zas, Zat, Zau, Zav, stp, Zaw, movK, mv1, ex, exv, exvs, Zax, Zay, ini, St.val, binK, binV, ofV, Zaz, unK, unV, beqK, beq_true, beq_false, if_true, if_false, List.getElem?_cons_zero, List.getElem?_cons_succ, ↓reduceIte, Nat.reduceEqDiff, reduceCtorEq, Za0, adr, Za1, Ad.fv, Ad.live, Za2, List.length_cons, List.length_nil, List.drop_zero, List.drop_succ_cons, List.take_succ_cons, List.take_zero, Nat.reduceAdd, Nat.reduceLeDiff, Nat.zero_add, Nat.add_zero, aeqK, agEq, scEq, Za3, Za4, exc, Za5, Za6, Za7, Za8, Za9, Zba, Zbb, Zbc, Zbd, List.reverse_cons, List.reverse_nil, List.nil_append, List.cons_append, extK, Bool.and_true, Bool.true_and, Bool.not_true, Bool.not_false, resT, Zbe, resV, true_and, and_true, Zbf, Zbg, Zbh, Zbi, Zbj, Zbk, Zbl, Zbm, Zbn, Zbo, Zbp, Zbq, Zbr, Zbs, Zbt, implies_true, Bool.and_self, Zbu, Zbv, Zbw, Zbx, Zby, Zbz, Zb0, Zb1, Zb2, List.take_length, decide_true, decide_false, Option.some.injEq, Value.bool.injEq, Value.int.injEq, Bool.false_and, Bool.and_false, not_false_eq_true, not_true_eq_false, Zb3, List.length_set, Nat.reduceMul, Bool.not_eq_true, Bool.not_eq_false, List.all_cons, List.all_nil, exps, Zb4, Zb5, strK, Zb6, fnK, Zb7, List.size_toArray, List.append_nil, List.singleton_append, Zb8, Zb9, Zbt, List.isEmpty_nil, List.isEmpty_cons, mkVK, mkOK, Zca, Zcb, Zcc, Zcd, Zce, Zcf, List.map_cons, List.map_nil, k1, k3, k4, w1]
          exact ⟨hil, by simp⟩
      · have : i = l.length := by have := of_decide_eq_false c1; omega
        subst this
        exact ⟨hH, rfl⟩
    · rintro s ⟨hH, k3⟩
      simp only [Zaa, Zab, Zac, Zad, Zae, Zaf, Zag, Zah, Zai, go_r, Zaj, go_d, Zak, go_e, box2, Option.isSome_some, Nat.le_refl, Zal, go_o, go_g, Zam, Zan, Zao, Zap, Zaq, Zar, Zas, Zat, Zau, Zav, stp, Zaw, movK, mv1, ex, exv, exvs, Zax, Zay, ini, St.val, binK, binV, ofV, Zaz, unK, unV, beqK, beq_true, beq_false, if_true, if_false, List.getElem?_cons_zero, List.getElem?_cons_succ, ↓reduceIte, Nat.reduceEqDiff, reduceCtorEq, Za0, adr, Za1, Ad.fv, Ad.live, Za2, List.length_cons, List.length_nil, List.drop_zero, List.drop_succ_cons, List.take_succ_cons, List.take_zero, Nat.reduceAdd, Nat.reduceLeDiff, Nat.zero_add, Nat.add_zero, aeqK, agEq, scEq, Za3, Za4, exc, Za5, Za6, Za7, Za8, Za9, Zba, Zbb, Zbc, Zbd, List.reverse_cons, List.reverse_nil, List.nil_append, List.cons_append, extK, Bool.and_true, Bool.true_and, Bool.not_true, Bool.not_false, resT, Zbe, resV, true_and, and_true, Zbf, Zbg, Zbh, Zbi, Zbj, Zbk, Zbl, Zbm, Zbn, Zbo, Zbp, Zbq, Zbr, Zbs, Zbt, implies_true, Bool.and_self, Zbu, Zbv, Zbw, Zbx, Zby, Zbz, Zb0, Zb1, Zb2, List.take_length, decide_true, decide_false, Option.some.injEq, Value.bool.injEq, Value.int.injEq, Bool.false_and, Bool.and_false, not_false_eq_true, not_true_eq_false, Zb3, List.length_set, Nat.reduceMul, Bool.not_eq_true, Bool.not_eq_false, List.all_cons, List.all_nil, exps, Zb4, Zb5, strK, Zb6, fnK, Zb7, List.size_toArray, List.append_nil, List.singleton_append, Zb8, Zb9, Zbt, List.isEmpty_nil, List.isEmpty_cons, mkVK, mkOK, Zca, Zcb, Zcc, Zcd, Zce, Zcf, List.map_cons, List.map_nil, hH, k3]

theorem f19 {H : Hp} {q : Int} {v : Value} {l : List Rw} (hl : SlRw H v l) : Scal EE 19 [.agg #[.int .i64 q, v]] H (.string (showB q l)) := by
  refine scal_ok rfl rfl k19 (by simp [c19]) rfl fun m hw => ?_
  have a16 := fun {m draw t d ts Q} => callT_at (m := m) (draw := draw) (s := t) (d := d) (ts := ts) (Q := Q) (f16 (q := q) hl)
  have a65 := fun {n m draw t d ts Q} => callT_at (m := m) (draw := draw) (s := t) (d := d) (ts := ts) (Q := Q) (f65 (H := H) (n := n))
  simp only [Zaa, Zab, Zac, Zad, Zae, Zaf, Zag, Zah, Zai, go_r, Zaj, go_d, Zak, go_e, box2, Option.isSome_some, Nat.le_refl, Zal, go_o, go_g, Zam, Zan, Zao, Zap, Zaq, Zar, Zas, Zat, Zau, Zav, stp, Zaw, movK, mv1, ex, exv, exvs, Zax, Zay, ini, St.val, binK, binV, ofV, Zaz, unK, unV, beqK, beq_true, beq_false, if_true, if_false, List.getElem?_cons_zero, List.getElem?_cons_succ, ↓reduceIte, Nat.reduceEqDiff, reduceCtorEq, Za0, adr, Za1, Ad.fv, Ad.live, Za2, List.length_cons, List.length_nil, List.drop_zero, List.drop_succ_cons, List.take_succ_cons, List.take_zero, Nat.reduceAdd, Nat.reduceLeDiff, Nat.zero_add, Nat.add_zero, aeqK, agEq, scEq, Za3, Za4, exc, Za5, Za6, Za7, Za8, Za9, Zba, Zbb, Zbc, Zbd, List.reverse_cons, List.reverse_nil, List.nil_append, List.cons_append, extK, Bool.and_true, Bool.true_and, Bool.not_true, Bool.not_false, resT, Zbe, resV, true_and, and_true, Zbf, Zbg, Zbh, Zbi, Zbj, Zbk, Zbl, Zbm, Zbn, Zbo, Zbp, Zbq, Zbr, Zbs, Zbt, implies_true, Bool.and_self, Zbu, Zbv, Zbw, Zbx, Zby, Zbz, Zb0, Zb1, Zb2, List.take_length, decide_true, decide_false, Option.some.injEq, Value.bool.injEq, Value.int.injEq, Bool.false_and, Bool.and_false, not_false_eq_true, not_true_eq_false, Zb3, List.length_set, Nat.reduceMul, Bool.not_eq_true, Bool.not_eq_false, List.all_cons, List.all_nil, exps, Zb4, Zb5, strK, Zb6, fnK, Zb7, List.size_toArray, List.append_nil, List.singleton_append, Zb8, Zb9, Zbt, List.isEmpty_nil, List.isEmpty_cons, mkVK, mkOK, Zca, Zcb, Zcc, Zcd, Zce, Zcf, List.map_cons, List.map_nil, c19, hl.vc, a16, hw]
  unfold showB
  cases hB : bsOk q l with
  | false => simp only [Zaa, Zab, Zac, Zad, Zae, Zaf, Zag, Zah, Zai, go_r, Zaj, go_d, Zak, go_e, box2, Option.isSome_some, Nat.le_refl, Zal, go_o, go_g, Zam, Zan, Zao, Zap, Zaq, Zar, Zas, Zat, Zau, Zav, stp, Zaw, movK, mv1, ex, exv, exvs, Zax, Zay, ini, St.val, binK, binV, ofV, Zaz, unK, unV, beqK, beq_true, beq_false, if_true, if_false, List.getElem?_cons_zero, List.getElem?_cons_succ, ↓reduceIte, Nat.reduceEqDiff, reduceCtorEq, Za0, adr, Za1, Ad.fv, Ad.live, Za2, List.length_cons, List.length_nil, List.drop_zero, List.drop_succ_cons, List.take_succ_cons, List.take_zero, Nat.reduceAdd, Nat.reduceLeDiff, Nat.zero_add, Nat.add_zero, aeqK, agEq, scEq, Za3, Za4, exc, Za5, Za6, Za7, Za8, Za9, Zba, Zbb, Zbc, Zbd, List.reverse_cons, List.reverse_nil, List.nil_append, List.cons_append, extK, Bool.and_true, Bool.true_and, Bool.not_true, Bool.not_false, resT, Zbe, resV, true_and, and_true, Zbf, Zbg, Zbh, Zbi, Zbj, Zbk, Zbl, Zbm, Zbn, Zbo, Zbp, Zbq, Zbr, Zbs, Zbt, implies_true, Bool.and_self, Zbu, Zbv, Zbw, Zbx, Zby, Zbz, Zb0, Zb1, Zb2, List.take_length, decide_true, decide_false, Option.some.injEq, Value.bool.injEq, Value.int.injEq, Bool.false_and, Bool.and_false, not_false_eq_true, not_true_eq_false, Zb3, List.length_set, Nat.reduceMul, Bool.not_eq_true, Bool.not_eq_false, List.all_cons, List.all_nil, exps, Zb4, Zb5, strK, Zb6, fnK, Zb7, List.size_toArray, List.append_nil, List.singleton_append, Zb8, Zb9, Zbt, List.isEmpty_nil, List.isEmpty_cons, mkVK, mkOK, Zca, Zcb, Zcc, Zcd, Zce, Zcf, List.map_cons, List.map_nil, hB]
  | true =>
    have hok := bsOk_t.1 hB
    have h12 := hok.1
    have z1 := varB_size q
    have z2 := varB_size (l.length : Int)
    have hz : (varB q).size + (varB (l.length : Int)).size ≤ 9223372036854775807 := by omega
    simp only [Zaa, Zab, Zac, Zad, Zae, Zaf, Zag, Zah, Zai, go_r, Zaj, go_d, Zak, go_e, box2, Option.isSome_some, Nat.le_refl, Zal, go_o, go_g, Zam, Zan, Zao, Zap, Zaq, Zar, Zas, Zat, Zau, Zav, stp, Zaw, movK, mv1, ex, exv, exvs, Zax, Zay, ini, St.val, binK, binV, ofV, Zaz, unK, unV, beqK, beq_true, beq_false, if_true, if_false, List.getElem?_cons_zero, List.getElem?_cons_succ, ↓reduceIte, Nat.reduceEqDiff, reduceCtorEq, Za0, adr, Za1, Ad.fv, Ad.live, Za2, List.length_cons, List.length_nil, List.drop_zero, List.drop_succ_cons, List.take_succ_cons, List.take_zero, Nat.reduceAdd, Nat.reduceLeDiff, Nat.zero_add, Nat.add_zero, aeqK, agEq, scEq, Za3, Za4, exc, Za5, Za6, Za7, Za8, Za9, Zba, Zbb, Zbc, Zbd, List.reverse_cons, List.reverse_nil, List.nil_append, List.cons_append, extK, Bool.and_true, Bool.true_and, Bool.not_true, Bool.not_false, resT, Zbe, resV, true_and, and_true, Zbf, Zbg, Zbh, Zbi, Zbj, Zbk, Zbl, Zbm, Zbn, Zbo, Zbp, Zbq, Zbr, Zbs, Zbt, implies_true, Bool.and_self, Zbu, Zbv, Zbw, Zbx, Zby, Zbz, Zb0, Zb1, Zb2, List.take_length, decide_true, decide_false, Option.some.injEq, Value.bool.injEq, Value.int.injEq, Bool.false_and, Bool.and_false, not_false_eq_true, not_true_eq_false, Zb3, List.length_set, Nat.reduceMul, Bool.not_eq_true, Bool.not_eq_false, List.all_cons, List.all_nil, exps, Zb4, Zb5, strK, Zb6, fnK, Zb7, List.size_toArray, List.append_nil, List.singleton_append, Zb8, Zb9, Zbt, List.isEmpty_nil, List.isEmpty_cons, mkVK, mkOK, Zca, Zcb, Zcc, Zcd, Zce, Zcf, List.map_cons, List.map_nil, hB]
    refine go_draw ?_
    simp only [Zaa, Zab, Zac, Zad, Zae, Zaf, Zag, Zah, Zai, go_r, Zaj, go_d, Zak, go_e, box2, Option.isSome_some, Nat.le_refl, Zal, go_o, go_g, Zam, Zan, Zao, Zap, Zaq, Zar, Zas, Zat, Zau, Zav, stp, Zaw, movK, mv1, ex, exv, exvs, Zax, Zay, ini, St.val, binK, binV, ofV, Zaz, unK, unV, beqK, beq_true, beq_false, if_true, if_false, List.getElem?_cons_zero, List.getElem?_cons_succ, ↓reduceIte, Nat.reduceEqDiff, reduceCtorEq, Za0, adr, Za1, Ad.fv, Ad.live, Za2, List.length_cons, List.length_nil, List.drop_zero, List.drop_succ_cons, List.take_succ_cons, List.take_zero, Nat.reduceAdd, Nat.reduceLeDiff, Nat.zero_add, Nat.add_zero, aeqK, agEq, scEq, Za3, Za4, exc, Za5, Za6, Za7, Za8, Za9, Zba, Zbb, Zbc, Zbd, List.reverse_cons, List.reverse_nil, List.nil_append, List.cons_append, extK, Bool.and_true, Bool.true_and, Bool.not_true, Bool.not_false, resT, Zbe, resV, true_and, and_true, Zbf, Zbg, Zbh, Zbi, Zbj, Zbk, Zbl, Zbm, Zbn, Zbo, Zbp, Zbq, Zbr, Zbs, Zbt, implies_true, Bool.and_self, Zbu, Zbv, Zbw, Zbx, Zby, Zbz, Zb0, Zb1, Zb2, List.take_length, decide_true, decide_false, Option.some.injEq, Value.bool.injEq, Value.int.injEq, Bool.false_and, Bool.and_false, not_false_eq_true, not_true_eq_false, Zb3, List.length_set, Nat.reduceMul, Bool.not_eq_true, Bool.not_eq_false, List.all_cons, List.all_nil, exps, Zb4, Zb5, strK, Zb6, fnK, Zb7, List.size_toArray, List.append_nil, List.singleton_append, Zb8, Zb9, Zbt, List.isEmpty_nil, List.isEmpty_cons, mkVK, mkOK, Zca, Zcb, Zcc, Zcd, Zce, Zcf, List.map_cons, List.map_nil, hl.vc, hl.len, a65, hw, hz]
    refine ⟨by rfl, ?_⟩
    refine go_for l.length (fun i s => s.H = H ∧ s.ρ 19 = .val v ∧ s.ρ 20 = .val (.int .i64 l.length) ∧ s.ρ 21 = .val (.int .i64 i) ∧ s.ρ 3 = .val (.string (showN q l i)))
      (fun s => s.H = H ∧ s.ρ 3 = .val (.string (showN q l l.length))) ?_ ?_ ?_
    · exact ⟨rfl, by simp [upd, ini], by simp [upd], by simp [upd], by simp [upd, showN]⟩
    · rintro i s hi ⟨hH, k19, k20, k21, k3⟩
      simp only [Zaa, Zab, Zac, Zad, Zae, Zaf, Zag, Zah, Zai, go_r, Zaj, go_d, Zak, go_e, box2, Option.isSome_some, Nat.le_refl, Zal, go_o, go_g, Zam, Zan, Zao, Zap, Zaq, Zar, Zas, Zat, Zau, Zav, stp, Zaw, movK, mv1, ex, exv, exvs, Zax, Zay, ini, St.val, binK, binV, ofV, Zaz, unK, unV, beqK, beq_true, beq_false, if_true, if_false, List.getElem?_cons_zero, List.getElem?_cons_succ, ↓reduceIte, Nat.reduceEqDiff, reduceCtorEq, Za0, adr, Za1, Ad.fv, Ad.live, Za2, List.length_cons, List.length_nil, List.drop_zero, List.drop_succ_cons, List.take_succ_cons, List.take_zero, Nat.reduceAdd, Nat.reduceLeDiff, Nat.zero_add, Nat.add_zero, aeqK, agEq, scEq, Za3, Za4, exc, Za5, Za6, Za7, Za8, Za9, Zba, Zbb, Zbc, Zbd, List.reverse_cons, List.reverse_nil, List.nil_append, List.cons_append, extK, Bool.and_true, Bool.true_and, Bool.not_true, Bool.not_false, resT, Zbe, resV, true_and, and_true, Zbf, Zbg, Zbh, Zbi, Zbj, Zbk, Zbl, Zbm, Zbn, Zbo, Zbp, Zbq, Zbr, Zbs, Zbt, implies_true, Bool.and_self, Zbu, Zbv, Zbw, Zbx, Zby, Zbz, Zb0, Zb1, Zb2, List.take_length, decide_true, decide_false, Option.some.injEq, Value.bool.injEq, Value.int.injEq, Bool.false_and, Bool.and_false, not_false_eq_true, not_true_eq_false, Zb3, List.length_set, Nat.reduceMul, Bool.not_eq_true, Bool.not_eq_false, List.all_cons, List.all_nil, exps, Zb4, Zb5, strK, Zb6, fnK, Zb7, List.size_toArray, List.append_nil, List.singleton_append, Zb8, Zb9, Zbt, List.isEmpty_nil, List.isEmpty_cons, mkVK, mkOK, Zca, Zcb, Zcc, Zcd, Zce, Zcf, List.map_cons, List.map_nil, k19, k20, k21, k3]
      refine brT.intro (fun c1 => ?_) (fun c1 => ?_) <;> simp only [Zaa, Zab, Zac, Zad, Zae, Zaf, Zag, Zah, Zai, go_r, Zaj, go_d, Zak, go_e, box2, Option.isSome_some, Nat.le_refl, Zal, go_o, go_g, Zam, Zan, Zao, Zap, Zaq, Zar, Zas, Zat, Zau, Zav, stp, Zaw, movK, mv1, ex, exv, exvs, Zax, Zay, ini, St.val, binK, binV, ofV, Zaz, unK, unV, beqK, beq_true, beq_false, if_true, if_false, List.getElem?_cons_zero, List.getElem?_cons_succ, ↓reduceIte, Nat.reduceEqDiff, reduceCtorEq, Za0, adr, Za1, Ad.fv, Ad.live, Za2, List.length_cons, List.length_nil, List.drop_zero, List.drop_succ_cons, List.take_succ_cons, List.take_zero, Nat.reduceAdd, Nat.reduceLeDiff, Nat.zero_add, Nat.add_zero, aeqK, agEq, scEq, Za3, Za4, exc, Za5, Za6, Za7, Za8, Za9, Zba, Zbb, Zbc, Zbd, List.reverse_cons, List.reverse_nil, List.nil_append, List.cons_append, extK, Bool.and_true, Bool.true_and, Bool.not_true, Bool.not_false, resT, Zbe, resV, true_and, and_true, Zbf, Zbg, Zbh, Zbi, Zbj, Zbk, Zbl, Zbm, Zbn, Zbo, Zbp, Zbq, Zbr, Zbs, Zbt, implies_true, Bool.and_self, Zbu, Zbv, Zbw, Zbx, Zby, Zbz, Zb0, Zb1, Zb2, List.take_length, decide_true, decide_false, Option.some.injEq, Value.bool.injEq, Value.int.injEq, Bool.false_and, Bool.and_false, not_false_eq_true, not_true_eq_false, Zb3, List.length_set, Nat.reduceMul, Bool.not_eq_true, Bool.not_eq_false, List.all_cons, List.all_nil, exps, Zb4, Zb5, strK, Zb6, fnK, Zb7, List.size_toArray, List.append_nil, List.singleton_append, Zb8, Zb9, Zbt, List.isEmpty_nil, List.isEmpty_cons, mkVK, mkOK, Zca, Zcb, Zcc, Zcd, Zce, Zcf, List.map_cons, List.map_nil, k19, k20, k21, k3]
      · have hil : i < l.length := by have := of_decide_eq_true c1; omega
        obtain ⟨id, p, o, ho, hr, hp, hia⟩ := hl.elem (List.getElem?_eq_getElem hil)
        unfold En at hr
        have hsz := showN_size (q := q) (l := l) (i := i) (by omega)
        have y1 := varB_size l[i].1
        have y2 := varB_size l[i].2.1
        have y3 := varB_size l[i].2.2.1
        have y4 := offB_size l[i].2.2.2
        have w1 : IntKind.i64.wrap ((i : Int) + 1) = (i : Int) + 1 := wrap64 _ (by omega) (by omega)
        rw [showN_succ hil]
        unfold addR
        generalize showN q l i = S at *
        generalize l[i] = z at *
        obtain ⟨z1', z2', z3', z4'⟩ := z
        simp only at y1 y2 y3 y4 hr ⊢
        have g1 : S.size + (varB z1').size ≤ 9223372036854775807 := by omega
        have g2 : (S ++ varB z1').size + (varB z2').size ≤ 9223372036854775807 := by rw [app_size]; omega
        have g3 : (S ++ varB z1' ++ varB z2').size + (varB z3').size ≤ 9223372036854775807 := by rw [app_size, app_size]; omega
        have g4 : (S ++ varB z1' ++ varB z2' ++ varB z3').size + (offB z4').size ≤ 9223372036854775807 := by rw [app_size, app_size, app_size]; omega
        simp only [Zaa, Zab, Zac, Zad, Zae, Zaf, Zag, Zah, Zai, go_r, Zaj, go_d, Zak, go_e, box2, Option.isSome_some, Nat.le_refl, Zal, go_o, go_g, Zam, Zan, Zao, Zap, Zaq, Zar, Zas, Zat, Zau, Zav, stp, Zaw, movK, mv1, ex, exv, exvs, Zax, Zay, ini, St.val, binK, binV, ofV, Zaz, unK, unV, beqK, beq_true, beq_false, if_true, if_false, List.getElem?_cons_zero, List.getElem?_cons_succ, ↓reduceIte, Nat.reduceEqDiff, reduceCtorEq, Za0, adr, Za1, Ad.fv, Ad.live, Za2, List.length_cons, List.length_nil, List.drop_zero, List.drop_succ_cons, List.take_succ_cons, List.take_zero, Nat.reduceAdd, Nat.reduceLeDiff, Nat.zero_add, Nat.add_zero, aeqK, agEq, scEq, Za3, Za4, exc, Za5, Za6, Za7, Za8, Za9, Zba, Zbb, Zbc, Zbd, List.reverse_cons, List.reverse_nil, List.nil_append, List.cons_append, extK, Bool.and_true, Bool.true_and, Bool.not_true, Bool.not_false, resT, Zbe, resV, true_and, and_true, Zbf, Zbg, Zbh, Zbi, Zbj, Zbk, Zbl, Zbm, Zbn, Zbo, Zbp, Zbq, Zbr, Zbs, Zbt, implies_true, Bool.and_self, Zbu, Zbv, Zbw, Zbx, Zby, Zbz, Zb0, Zb1, Zb2, List.take_length, decide_true, decide_false, Option.some.injEq, Value.bool.injEq, Value.int.injEq, Bool.false_and, Bool.and_false, not_false_eq_true, not_true_eq_false, Zb3, List.length_set, Nat.reduceMul, Bool.not_eq_true, Bool.not_eq_false, List.all_cons, List.all_nil, exps, Zb4, Zb5, strK, Zb6, fnK, Zb7, List.size_toArray, List.append_nil, List.singleton_append, Zb8, Zb9, Zbt, List.isEmpty_nil, List.isEmpty_cons, mkVK, mkOK, Zca, Zcb, Zcc, Zcd, Zce, Zcf, List.map_cons, List.map_nil, k19, k20, k21, k3, hia, hH, ho, hr, hp, eRw]
        cases z4' with
        | true =>
          have e4 : offB true = ⟨#[1]⟩ := rfl
          rw [e4] at g4 ⊢
          simp only [Zaa, Zab, Zac, Zad, Zae, Zaf, Zag, Zah, Zai, go_r, Zaj, go_d, Zak, go_e, box2, Option.isSome_some, Nat.le_refl, Zal, go_o, go_g, Zam, Zan, Zao, Zap, Zaq, Zar, Zas, Zat, Zau, Zav, stp, Zaw, movK, mv1, ex, exv, exvs, Zax, Zay, ini, St.val, binK, binV, ofV, Zaz, unK, unV, beqK, beq_true, beq_false, if_true, if_false, List.getElem?_cons_zero, List.getElem?_cons_succ, ↓reduceIte, Nat.reduceEqDiff, reduceCtorEq, Za0, adr, Za1, Ad.fv, Ad.live, Za2, List.length_cons, List.length_nil, List.drop_zero, List.drop_succ_cons, List.take_succ_cons, List.take_zero, Nat.reduceAdd, Nat.reduceLeDiff, Nat.zero_add, Nat.add_zero, aeqK, agEq, scEq, Za3, Za4, exc, Za5, Za6, Za7, Za8, Za9, Zba, Zbb, Zbc, Zbd, List.reverse_cons, List.reverse_nil, List.nil_append, List.cons_append, extK, Bool.and_true, Bool.true_and, Bool.not_true, Bool.not_false, resT, Zbe, resV, true_and, and_true, Zbf, Zbg, Zbh, Zbi, Zbj, Zbk, Zbl, Zbm, Zbn, Zbo, Zbp, Zbq, Zbr, Zbs, Zbt, implies_true, Bool.and_self, Zbu, Zbv, Zbw, Zbx, Zby, Zbz, Zb0, Zb1, Zb2, List.take_length, decide_true, decide_false, Option.some.injEq, Value.bool.injEq, Value.int.injEq, Bool.false_and, Bool.and_false, not_false_eq_true, not_true_eq_false, Zb3, List.length_set, Nat.reduceMul, Bool.not_eq_true, Bool.not_eq_false, List.all_cons, List.all_nil, exps, Zb4, Zb5, strK, Zb6, fnK, Zb7, List.size_toArray, List.append_nil, List.singleton_append, Zb8, Zb9, Zbt, List.isEmpty_nil, List.isEmpty_cons, mkVK, mkOK, Zca, Zcb, Zcc, Zcd, Zce, Zcf, List.map_cons, List.map_nil, k19, k20, k21, k3]
          refine go_draw ?_
          simp only [Zaa, Zab, Zac, Zad, Zae, Zaf, Zag, Zah, Zai, go_r, Zaj, go_d, Zak, go_e, box2, Option.isSome_some, Nat.le_refl, Zal, go_o, go_g, Zam, Zan, Zao, Zap, Zaq, Zar, Zas, Zat, Zau, Zav, stp, Zaw, movK, mv1, ex, exv, exvs, Zax, Zay, ini, St.val, binK, binV, ofV, Zaz, unK, unV, beqK, beq_true, beq_false, if_true, if_false, List.getElem?_cons_zero, List.getElem?_cons_succ, ↓reduceIte, Nat.reduceEqDiff, reduceCtorEq, Za0, adr, Za1, Ad.fv, Ad.live, Za2, List.length_cons, List.length_nil, List.drop_zero, List.drop_succ_cons, List.take_succ_cons, List.take_zero, Nat.reduceAdd, Nat.reduceLeDiff, Nat.zero_add, Nat.add_zero, aeqK, agEq, scEq, Za3, Za4, exc, Za5, Za6, Za7, Za8, Za9, Zba, Zbb, Zbc, Zbd, List.reverse_cons, List.reverse_nil, List.nil_append, List.cons_append, extK, Bool.and_true, Bool.true_and, Bool.not_true, Bool.not_false, resT, Zbe, resV, true_and, and_true, Zbf, Zbg, Zbh, Zbi, Zbj, Zbk, Zbl, Zbm, Zbn, Zbo, Zbp, Zbq, Zbr, Zbs, Zbt, implies_true, Bool.and_self, Zbu, Zbv, Zbw, Zbx, Zby, Zbz, Zb0, Zb1, Zb2, List.take_length, decide_true, decide_false, Option.some.injEq, Value.bool.injEq, Value.int.injEq, Bool.false_and, Bool.and_false, not_false_eq_true, not_true_eq_false, Zb3, List.length_set, Nat.reduceMul, Bool.not_eq_true, Bool.not_eq_false, List.all_cons, List.all_nil, exps, Zb4, Zb5, strK, Zb6, fnK, Zb7, List.size_toArray, List.append_nil, List.singleton_append, Zb8, Zb9, Zbt, List.isEmpty_nil, List.isEmpty_cons, mkVK, mkOK, Zca, Zcb, Zcc, Zcd, Zce, Zcf, List.map_cons, List.map_nil, k19, k20, k21, k3, a65, hw, g1, g2, g3, g4, hH]
          refine ⟨by rfl, ?_⟩
          simp only [Zaa, Zab, Zac, Zad, Zae, Zaf, Zag, Zah, Zai, go_r, Zaj, go_d, Zak, go_e, box2, Option.isSome_some, Nat.le_refl, Zal, go_o, go_g, Zam, Zan, Zao, Zap, Zaq, Zar, Zas, Zat, Zau, Zav, stp, Zaw, movK, mv1, ex, exv, exvs, Zax, Zay, ini, St.val, binK, binV, ofV, Zaz, unK, unV, beqK, beq_true, beq_false, if_true, if_false, List.getElem?_cons_zero, List.getElem?_cons_succ, ↓reduceIte, Nat.reduceEqDiff, reduceCtorEq, Za0, adr, Za1, Ad.fv, Ad.live, Za2, List.length_cons, List.length_nil, List.drop_zero, List.drop_succ_cons, List.take_succ_cons, List.take_zero, Nat.reduceAdd, Nat.reduceLeDiff, Nat.zero_add, Nat.add_zero, aeqK, agEq, scEq, Za3, Za4, exc, Za5, Za6, Za7, Za8, Za9, Zba, Zbb, Zbc, Zbd, List.reverse_cons, List.reverse_nil, List.nil_append, List.cons_append, extK, Bool.and_true, Bool.true_and, Bool.not_true, Bool.not_false, resT, Zbe, resV, true_and, and_true, Zbf, Zbg, Zbh, Zbi, Zbj, Zbk, Zbl, Zbm, Zbn, Zbo, Zbp, Zbq, Zbr, Zbs, Zbt, implies_true, Bool.and_self, Zbu, Zbv, Zbw, Zbx, Zby, Zbz, Zb0, Zb1, Zb2, List.take_length, decide_true, decide_false, Option.some.injEq, Value.bool.injEq, Value.int.injEq, Bool.false_and, Bool.and_false, not_false_eq_true, not_true_eq_false, Zb3, List.length_set, Nat.reduceMul, Bool.not_eq_true, Bool.not_eq_false, List.all_cons, List.all_nil, exps, Zb4, Zb5, strK, Zb6, fnK, Zb7, List.size_toArray, List.append_nil, List.singleton_append, Zb8, Zb9, Zbt, List.isEmpty_nil, List.isEmpty_cons, mkVK, mkOK, Zca, Zcb, Zcc, Zcd, Zce, Zcf, List.map_cons, List.map_nil, k19, k20, k21, k3, w1]
          exact ⟨hil, by simp⟩
        | false =>
          have e4 : offB false = ⟨#[0]⟩ := rfl
          rw [e4] at g4 ⊢
          simp only [Zaa, Zab, Zac, Zad, Zae, Zaf, Zag, Zah, Zai, go_r, Zaj, go_d, Zak, go_e, box2, Option.isSome_some, Nat.le_refl, Zal, go_o, go_g, Zam, Zan, Zao, Zap, Zaq, Zar, Zas, Zat, Zau, Zav, stp, Zaw, movK, mv1, ex, exv, exvs, Zax, Zay, ini, St.val, binK, binV, ofV, Zaz, unK, unV, beqK, beq_true, beq_false, if_true, if_false, List.getElem?_cons_zero, List.getElem?_cons_succ, ↓reduceIte, Nat.reduceEqDiff, reduceCtorEq, Za0, adr, Za1, Ad.fv, Ad.live, Za2, List.length_cons, List.length_nil, List.drop_zero, List.drop_succ_cons, List.take_succ_cons, List.take_zero, Nat.reduceAdd, Nat.reduceLeDiff, Nat.zero_add, Nat.add_zero, aeqK, agEq, scEq, Za3, Za4, exc, Za5, Za6, Za7, Za8, Za9, Zba, Zbb, Zbc, Zbd, List.reverse_cons, List.reverse_nil, List.nil_append, List.cons_append, extK, Bool.and_true, Bool.true_and, Bool.not_true, Bool.not_false, resT, Zbe, resV, true_and, and_true, Zbf, Zbg, Zbh, Zbi, Zbj, Zbk, Zbl, Zbm, Zbn, Zbo, Zbp, Zbq, Zbr, Zbs, Zbt, implies_true, Bool.and_self, Zbu, Zbv, Zbw, Zbx, Zby, Zbz, Zb0, Zb1, Zb2, List.take_length, decide_true, decide_false, Option.some.injEq, Value.bool.injEq, Value.int.injEq, Bool.false_and, Bool.and_false, not_false_eq_true, not_true_eq_false, Zb3, List.length_set, Nat.reduceMul, Bool.not_eq_true, Bool.not_eq_false, List.all_cons, List.all_nil, exps, Zb4, Zb5, strK, Zb6, fnK, Zb7, List.size_toArray, List.append_nil, List.singleton_append, Zb8, Zb9, Zbt, List.isEmpty_nil, List.isEmpty_cons, mkVK, mkOK, Zca, Zcb, Zcc, Zcd, Zce, Zcf, List.map_cons, List.map_nil, k19, k20, k21, k3]
          refine go_draw ?_
          simp only [Zaa, Zab, Zac, Zad, Zae, Zaf, Zag, Zah, Zai, go_r, Zaj, go_d, Zak, go_e, box2, Option.isSome_some, Nat.le_refl, Zal, go_o, go_g, Zam, Zan, Zao, Zap, Zaq, Zar, Zas, Zat, Zau, Zav, stp, Zaw, movK, mv1, ex, exv, exvs, Zax, Zay, ini, St.val, binK, binV, ofV, Zaz, unK, unV, beqK, beq_true, beq_false, if_true, if_false, List.getElem?_cons_zero, List.getElem?_cons_succ, ↓reduceIte, Nat.reduceEqDiff, reduceCtorEq, Za0, adr, Za1, Ad.fv, Ad.live, Za2, List.length_cons, List.length_nil, List.drop_zero, List.drop_succ_cons, List.take_succ_cons, List.take_zero, Nat.reduceAdd, Nat.reduceLeDiff, Nat.zero_add, Nat.add_zero, aeqK, agEq, scEq, Za3, Za4, exc, Za5, Za6, Za7, Za8, Za9, Zba, Zbb, Zbc, Zbd, List.reverse_cons, List.reverse_nil, List.nil_append, List.cons_append, extK, Bool.and_true, Bool.true_and, Bool.not_true, Bool.not_false, resT, Zbe, resV, true_and, and_true, Zbf, Zbg, Zbh, Zbi, Zbj, Zbk, Zbl, Zbm, Zbn, Zbo, Zbp, Zbq, Zbr, Zbs, Zbt, implies_true, Bool.and_self, Zbu, Zbv, Zbw, Zbx, Zby, Zbz, Zb0, Zb1, Zb2, List.take_length, decide_true, decide_false, Option.some.injEq, Value.bool.injEq, Value.int.injEq, Bool.false_and, Bool.and_false, not_false_eq_true, not_true_eq_false, Zb3, List.length_set, Nat.reduceMul, Bool.not_eq_true, Bool.not_eq_false, List.all_cons, List.all_nil, exps, Zb4, Zb5, strK, Zb6, fnK, Zb7, List.size_toArray, List.append_nil, List.singleton_append, Zb8, Zb9, Zbt, List.isEmpty_nil, List.isEmpty_cons, mkVK, mkOK, Zca, Zcb, Zcc, Zcd, Zce, Zcf, List.map_cons, List.map_nil, k19, k20, k21, k3, a65, hw, g1, g2, g3, g4, hH]
          refine ⟨by rfl, ?_⟩
          simp only [Zaa, Zab, Zac, Zad, Zae, Zaf, Zag, Zah, Zai, go_r, Zaj, go_d, Zak, go_e, box2, Option.isSome_some, Nat.le_refl, Zal, go_o, go_g, Zam, Zan, Zao, Zap, Zaq, Zar, Zas, Zat, Zau, Zav, stp, Zaw, movK, mv1, ex, exv, exvs, Zax, Zay, ini, St.val, binK, binV, ofV, Zaz, unK, unV, beqK, beq_true, beq_false, if_true, if_false, List.getElem?_cons_zero, List.getElem?_cons_succ, ↓reduceIte, Nat.reduceEqDiff, reduceCtorEq, Za0, adr, Za1, Ad.fv, Ad.live, Za2, List.length_cons, List.length_nil, List.drop_zero, List.drop_succ_cons, List.take_succ_cons, List.take_zero, Nat.reduceAdd, Nat.reduceLeDiff, Nat.zero_add, Nat.add_zero, aeqK, agEq, scEq, Za3, Za4, exc, Za5, Za6, Za7, Za8, Za9, Zba, Zbb, Zbc, Zbd, List.reverse_cons, List.reverse_nil, List.nil_append, List.cons_append, extK, Bool.and_true, Bool.true_and, Bool.not_true, Bool.not_false, resT, Zbe, resV, true_and, and_true, Zbf, Zbg, Zbh, Zbi, Zbj, Zbk, Zbl, Zbm, Zbn, Zbo, Zbp, Zbq, Zbr, Zbs, Zbt, implies_true, Bool.and_self, Zbu, Zbv, Zbw, Zbx, Zby, Zbz, Zb0, Zb1, Zb2, List.take_length, decide_true, decide_false, Option.some.injEq, Value.bool.injEq, Value.int.injEq, Bool.false_and, Bool.and_false, not_false_eq_true, not_true_eq_false, Zb3, List.length_set, Nat.reduceMul, Bool.not_eq_true, Bool.not_eq_false, List.all_cons, List.all_nil, exps, Zb4, Zb5, strK, Zb6, fnK, Zb7, List.size_toArray, List.append_nil, List.singleton_append, Zb8, Zb9, Zbt, List.isEmpty_nil, List.isEmpty_cons, mkVK, mkOK, Zca, Zcb, Zcc, Zcd, Zce, Zcf, List.map_cons, List.map_nil, k19, k20, k21, k3, w1]
          exact ⟨hil, by simp⟩
      · have : i = l.length := by have := of_decide_eq_false c1; omega
        subst this
        exact ⟨hH, rfl⟩
    · rintro s ⟨hH, k3⟩
      simp only [Zaa, Zab, Zac, Zad, Zae, Zaf, Zag, Zah, Zai, go_r, Zaj, go_d, Zak, go_e, box2, Option.isSome_some, Nat.le_refl, Zal, go_o, go_g, Zam, Zan, Zao, Zap, Zaq, Zar, Zas, Zat, Zau, Zav, stp, Zaw, movK, mv1, ex, exv, exvs, Zax, Zay, ini, St.val, binK, binV, ofV, Zaz, unK, unV, beqK, beq_true, beq_false, if_true, if_false, List.getElem?_cons_zero, List.getElem?_cons_succ, ↓reduceIte, Nat.reduceEqDiff, reduceCtorEq, Za0, adr, Za1, Ad.fv, Ad.live, Za2, List.length_cons, List.length_nil, List.drop_zero, List.drop_succ_cons, List.take_succ_cons, List.take_zero, Nat.reduceAdd, Nat.reduceLeDiff, Nat.zero_add, Nat.add_zero, aeqK, agEq, scEq, Za3, Za4, exc, Za5, Za6, Za7, Za8, Za9, Zba, Zbb, Zbc, Zbd, List.reverse_cons, List.reverse_nil, List.nil_append, List.cons_append, extK, Bool.and_true, Bool.true_and, Bool.not_true, Bool.not_false, resT, Zbe, resV, true_and, and_true, Zbf, Zbg, Zbh, Zbi, Zbj, Zbk, Zbl, Zbm, Zbn, Zbo, Zbp, Zbq, Zbr, Zbs, Zbt, implies_true, Bool.and_self, Zbu, Zbv, Zbw, Zbx, Zby, Zbz, Zb0, Zb1, Zb2, List.take_length, decide_true, decide_false, Option.some.injEq, Value.bool.injEq, Value.int.injEq, Bool.false_and, Bool.and_false, not_false_eq_true, not_true_eq_false, Zb3, List.length_set, Nat.reduceMul, Bool.not_eq_true, Bool.not_eq_false, List.all_cons, List.all_nil, exps, Zb4, Zb5, strK, Zb6, fnK, Zb7, List.size_toArray, List.append_nil, List.singleton_append, Zb8, Zb9, Zbt, List.isEmpty_nil, List.isEmpty_cons, mkVK, mkOK, Zca, Zcb, Zcc, Zcd, Zce, Zcf, List.map_cons, List.map_nil, hH, k3]

end Go.Proofs.Ytokicdkdllndpaa.Ev

/- Numbers read one behind the other: both ways. -/
namespace Go.Proofs.Ytokicdkdllndpaa.Ev
set_option linter.all false
open Go
set_option maxRecDepth 4000

noncomputable def stepP (s : ByteArray) : Option Nat → Option Nat
  | some a => if (rdV (rest s a)).2 = 0 then none else some (a + (rdV (rest s a)).2)
  | none => none
noncomputable def valP (s : ByteArray) : Option Nat → Int
  | some a => if (rdV (rest s a)).2 = 0 then 0 else ((rdV (rest s a)).1 : Nat)
  | none => 0
noncomputable def posI (s : ByteArray) (o : Option Nat) : Nat → Option Nat
  | 0 => o
  | n + 1 => stepP s (posI s o n)
abbrev SlI (H : Hp) (v : Value) (l : List Int) : Prop := Sl (En eI) 1 H v l
theorem Sl.int {H : Hp} {v : Value} {l : List Int} (h : SlI H v l) {i : Nat} {a : Int} (hi : l[i]? = some a) : ∃ id p o, H[id]? = some o ∧ o[p]? = some (.int .i64 a) ∧
    ∀ (s : St) (x y : X), exv s.ρ x = some v → exv s.ρ y = some (.int .i64 i) → iadrK s 1 x y = some (.val (.pointer (some ⟨id, p, some o.length⟩)), s) := by
  obtain ⟨id, p, o, ho, hr, hp, hia⟩ := h.elem hi
  unfold En at hr
  exact ⟨id, p, o, ho, by simpa [eI] using getElem?_of_take hr (j := 0) (by omega), hia⟩
/-- A reader of numbers: where it stands. -/
def Rd (H : Hp) (c : Value) (id : Nat) (s : ByteArray) (o : Option Nat) : Prop := c = .pointer (some ⟨id, 0, some 3⟩) ∧ ∃ (a : Nat) (bad : Bool), H[id]? = some [.string s, .int .i64 a, .bool bad] ∧ a ≤ s.size ∧ (∀ b, o = some b → a = b ∧ bad = false) ∧ (o = none → bad = true)
def RS (H H' : Hp) (c : Value) (id : Nat) (s : ByteArray) (o : Option Nat) : Prop := Rd H' c id s o ∧ (∀ j, j ≠ id → H'[j]? = H[j]?) ∧ H'.length = H.length
theorem Rd.lt {H : Hp} {c : Value} {id : Nat} {s : ByteArray} {o : Option Nat} (h : Rd H c id s o) : id < H.length := by
  obtain ⟨rfl, a, b, hid, _⟩ := h
  exact (List.getElem?_eq_some_iff.1 hid).1
theorem RS.pre {H H' : Hp} {c : Value} {id : Nat} {s : ByteArray} {o : Option Nat} {H0 : Hp} (h : RS H H' c id s o) (hp : H0 <+: H) (hid : H0.length ≤ id) : H0 <+: H' :=
  pre_keep hp (fun j hj => h.2.1 j (by omega)) (by have := h.2.2; omega)
theorem Sl.rs {α : Type} {R : α → List Value → Prop} {esz : Nat} {H H' : Hp} {v c : Value} {l : List α} {id : Nat} {s : ByteArray} {o : Option Nat} (h : Sl R esz H v l) (hc : RS H H' c id s o) (hid : id ∉ idsOf v) : Sl R esz H' v l :=
  h.frame (fun _ _ _ h => h) fun i off e ln cap hv => hc.2.1 i (fun e2 => hid (by subst hv; subst e2; simp [idsOf]))
theorem Rd.keep {H H' : Hp} {c : Value} {id : Nat} {s : ByteArray} {o : Option Nat} (h : Rd H c id s o) (hk : H'[id]? = H[id]?) : Rd H' c id s o := by
  obtain ⟨rfl, a, b, hid, h2⟩ := h
  exact ⟨rfl, a, b, by rw [hk]; exact hid, h2⟩

/-- How many there are, at most so many. -/
noncomputable def manyP (s : ByteArray) (most : Int) (o : Option Nat) : Option Nat := if valP s o > most then none else stepP s o
end Go.Proofs.Ytokicdkdllndpaa.Ev

/- Terms within longer texts; what was written is read back: plain. -/
namespace Go.Proofs.Ytokicdkdllndpaa.Ev
set_option linter.all false
open Go

theorem valB_ext {s y : ByteArray} : ∀ {k : Nat}, k ≤ s.size → valB (s ++ y) k = valB s k
  | 0, _ => rfl
  | k + 1, h => by rw [valB, valB, valB_ext (by omega), cat_left (by omega)]
theorem extract_ext {s y : ByteArray} {a k : Nat} (h : k ≤ s.size) : (s ++ y).extract a k = s.extract a k := by
  refine ByteArray.ext ?_
  rw [ByteArray.data_extract, ByteArray.data_extract, ByteArray.data_append, Array.extract_append]
  have : s.size = s.data.size := rfl
  have h2 : k - s.data.size = 0 := by omega
  rw [h2]
  simp
theorem readV.ext {s y : ByteArray} {n k : Nat} (h : readV s n k) : readV (s ++ y) n k := by
  obtain ⟨h1, h2, h3, h4, h5⟩ := h
  refine ⟨h1, h2, by rw [ByteArray.size_append]; omega, by rw [valB_ext h3]; exact h4, ?_⟩
  unfold isV
  rw [valB_ext h3, extract_ext h3]
  exact h5
end Go.Proofs.Ytokicdkdllndpaa.Ev

/- A row of numbers as a text, read again: plain. -/
namespace Go.Proofs.Ytokicdkdllndpaa.Ev
set_option linter.all false
open Go

end Go.Proofs.Ytokicdkdllndpaa.Ev

/- A store read from its text: both ways. -/
namespace Go.Proofs.Ytokicdkdllndpaa.Ev
set_option linter.all false
open Go
set_option maxRecDepth 4000

noncomputable def hdP (s : ByteArray) : Option Nat := manyP s 12 (stepP s (some 0))
noncomputable def nP (s : ByteArray) : Nat := (valP s (stepP s (some 0))).toNat
noncomputable def rowP (s : ByteArray) (o : Option Nat) : Rw := (valP s o, valP s (posI s o 1), valP s (posI s o 2), decide (valP s (posI s o 3) = 1))
noncomputable def rowsP (s : ByteArray) (o : Option Nat) (n : Nat) : List Rw := (List.range n).map fun j => rowP s (posI s o (4 * j))
def GB (s : ByteArray) : Prop := (∃ a b, hdP s = some a ∧ posI s (some a) (4 * nP s) = some b) ∧ showB (valP s (some 0)) (rowsP s (hdP s) (nP s)) = s
def RB (s : ByteArray) (q : Int) (l : List Rw) (ok : Bool) : Prop := (GB s ∧ ok = true ∧ q = valP s (some 0) ∧ l = rowsP s (hdP s) (nP s)) ∨ (¬ GB s ∧ ok = false ∧ q = 0 ∧ l = [])
def BsR (H : Hp) (s : ByteArray) (r : Value) (H' : Hp) : Prop := ∃ q w l ok, r = .tuple #[.agg #[.int .i64 q, w], .bool ok] ∧ FreshS eRw 4 H w H' l ∧ RB s q l ok
theorem BsR.no {H H' : Hp} {s : ByteArray} (h : ¬ GB s) (hp : H <+: H') : BsR H s (.tuple #[.agg #[.int .i64 0, .slice none 0 0], .bool false]) H' := ⟨0, _, [], false, rfl, ⟨hp, .inl ⟨rfl, rfl⟩, .inl rfl⟩, .inr ⟨h, rfl, rfl, rfl⟩⟩
theorem Sl.oneRw {m : Md} {N : Nat} {H : Hp} {v : Value} {l : List Rw} (z : Rw) (h : SlRw H v l) (ho : OwnS N v) (hN : N ≤ H.length) (hw : ∀ id, N ≤ id → m.wr id = true) (hb : l.length < 1048576) :
    ∃ v' H', (∀ (s : St) (x y : X), s.H = H → exv s.ρ x = some v → ex s.ρ y = .vs 1 (eRw z) → appK m s 4 32 x y = some (.val v', { s with H := H' })) ∧ SlRw H' v' (l ++ [z]) ∧ OwnS N v' ∧
      (∀ j, j < H.length → j ∉ idsOf v → H'[j]? = H[j]?) ∧ H.length ≤ H'.length ∧ (∀ j ∈ idsOf v', j ∈ idsOf v ∨ H.length ≤ j) ∧ ∀ H0 : Hp, H0.length ≤ N → H0 <+: H → H0 <+: H' := by
  obtain ⟨v', H', h1, h2⟩ := h.app (m := m) (n := 1) (bytes := 32) (l2 := [z]) (cs := eRw z) ho hN hw (fun _ => rfl) (by simp) rfl (fun i b hi => by
    cases i with
    | zero => simp at hi; subst hi; rfl
    | succ i => simp at hi) (by unfold Ev.room; simp; omega) (by unfold Ev.room; simp; omega)
  exact ⟨v', H', fun s x y hH hx hy => h1 s x y hH hx (by rw [hy]; rfl), h2⟩

theorem OwnS.mono {N N' : Nat} {v : Value} (h : OwnS N v) (hn : N' ≤ N) : OwnS N' v := by
  rcases h with h | ⟨id, e, ln, cap, h, hid⟩
  · exact .inl h
  · exact .inr ⟨id, e, ln, cap, h, by omega⟩
end Go.Proofs.Ytokicdkdllndpaa.Ev

/- A store read from its text: the program's way; the law ReadBase. -/
namespace Go.Proofs.Ytokicdkdllndpaa.Ev
set_option linter.all false
open Go
set_option maxRecDepth 4000

end Go.Proofs.Ytokicdkdllndpaa.Ev

/- What is done to a store: plain. -/
namespace Go.Proofs.Ytokicdkdllndpaa.Ev
set_option linter.all false
open Go
set_option maxRecDepth 4000

def idxR (l : List Rw) (w : Int) : Nat := l.findIdx fun z => decide (z.1 = w)
def atR (l : List Rw) (w : Int) : Int := if idxR l w < l.length then (idxR l w : Int) else -1
def posR (l : List Rw) (w : Int) : Nat := l.findIdx fun z => decide (z.1 > w)
def insR (z : Rw) (l : List Rw) : List Rw := l.take (posR l z.1) ++ z :: l.drop (posR l z.1)
theorem idxR_le (l : List Rw) (w : Int) : idxR l w ≤ l.length := List.findIdx_le_length
theorem posR_le (l : List Rw) (w : Int) : posR l w ≤ l.length := List.findIdx_le_length
theorem idxR_at {l : List Rw} {w : Int} (h : idxR l w < l.length) : (l[idxR l w]'h).1 = w := by
  have := List.findIdx_getElem (p := fun z : Rw => decide (z.1 = w)) (w := h)
  exact of_decide_eq_true this
theorem idxR_no {l : List Rw} {w : Int} {i : Nat} (h : i < idxR l w) : (l[i]'(by have := idxR_le l w; omega)).1 ≠ w := by
  have := List.not_of_lt_findIdx (p := fun z : Rw => decide (z.1 = w)) h
  simpa using this
theorem posR_at {l : List Rw} {w : Int} (h : posR l w < l.length) : (l[posR l w]'h).1 > w := by
  have := List.findIdx_getElem (p := fun z : Rw => decide (z.1 > w)) (w := h)
  exact of_decide_eq_true this
theorem posR_no {l : List Rw} {w : Int} {i : Nat} (h : i < posR l w) : ¬ (l[i]'(by have := posR_le l w; omega)).1 > w := by
  have := List.not_of_lt_findIdx (p := fun z : Rw => decide (z.1 > w)) h
  simpa using this
theorem idxR_eq {l : List Rw} {w : Int} {i : Nat} (hi : i < l.length) (h1 : ∀ j, (h : j < i) → (l[j]'(by omega)).1 ≠ w) (h2 : l[i].1 = w) : idxR l w = i := by
  rcases Nat.lt_trichotomy (idxR l w) i with h | h | h
  · exact absurd (idxR_at (by omega)) (h1 _ h)
  · exact h
  · exact absurd h2 (idxR_no h)
theorem idxR_len {l : List Rw} {w : Int} (h1 : ∀ j, (h : j < l.length) → l[j].1 ≠ w) : idxR l w = l.length := by
  have := idxR_le l w
  rcases Nat.lt_or_ge (idxR l w) l.length with h | h
  · exact absurd (idxR_at h) (h1 _ h)
  · omega

/-- Kind, and the row. -/
abbrev Op := Int × Rw
noncomputable def offR (l : List Rw) (k : Nat) : List Rw := match l[k]? with
  | some z => l.set k (z.1, z.2.1, z.2.2.1, true)
  | none => l
noncomputable def doR (q : Int) (l : List Rw) (o : Op) : Option (List Rw) :=
  if q ≥ 100000 then none
  else if o.1 = 1 then
    if rowOkB o.2 = true ∧ o.2.2.2.2 = false then
      if idxR l o.2.1 < l.length then some (l.set (idxR l o.2.1) o.2) else if l.length ≥ 12 then none else some (insR o.2 l)
    else none
  else if o.1 = 2 then if idxR l o.2.1 < l.length then some (l.eraseIdx (idxR l o.2.1)) else none
  else if o.1 = 3 then if idxR l o.2.1 < l.length then some (offR l (idxR l o.2.1)) else none
  else none

/-- A store that is right, said of pairs. -/
theorem bs_pair {q : Int} {l : List Rw} : BsOk q l ↔ l.length ≤ 12 ∧ (0 ≤ q ∧ q ≤ 100000) ∧ (∀ z ∈ l, rowOkB z = true) ∧ l.Pairwise fun a b => a.1 < b.1 := by
  unfold BsOk
  constructor
  · rintro ⟨h1, h2, h3⟩
    refine ⟨h1, h2, fun z hz => ?_, List.pairwise_iff_getElem.2 fun i j hi hj hij => ?_⟩
    · obtain ⟨i, hi, rfl⟩ := List.mem_iff_getElem.1 hz
      exact ((rowAt_at hi).1 (h3 i hi)).1
    · obtain ⟨d, rfl⟩ : ∃ d, j = i + 1 + d := ⟨j - i - 1, by omega⟩
      induction d with
      | zero => exact ((rowAt_at hj).1 (h3 _ hj)).2 (by omega)
      | succ d ih =>
        have := ih (by omega) (by omega)
        have h4 := ((rowAt_at hj).1 (h3 _ hj)).2 (by omega)
        have e : i + 1 + (d + 1) - 1 = i + 1 + d := by omega
        simp only [e] at h4
        omega
  · rintro ⟨h1, h2, h3, h4⟩
    refine ⟨h1, h2, fun i hi => (rowAt_at hi).2 ⟨h3 _ (List.getElem_mem hi), fun h0 => ?_⟩⟩
    exact List.pairwise_iff_getElem.1 h4 (i - 1) i (by omega) hi (by omega)

theorem pair_set {l : List Rw} {k : Nat} {z : Rw} (hk : k < l.length) (hz : z.1 = l[k].1) (h : l.Pairwise fun a b => a.1 < b.1) : (l.set k z).Pairwise fun a b => a.1 < b.1 := by
  rw [List.pairwise_iff_getElem] at h ⊢
  intro i j hi hj hij
  rw [List.length_set] at hi hj
  have e : ∀ i, (hi : i < l.length) → ((l.set k z)[i]'(by rw [List.length_set]; exact hi)).1 = l[i].1 := fun i hi => by
    rw [List.getElem_set]
    split
    · rename_i e; subst e; exact hz
    · rfl
  rw [e i hi, e j hj]
  exact h i j hi hj hij
theorem mem_set_ok {l : List Rw} {k : Nat} {z : Rw} (hz : rowOkB z = true) (h : ∀ x ∈ l, rowOkB x = true) : ∀ x ∈ l.set k z, rowOkB x = true := fun x hx => by
  rcases List.mem_or_eq_of_mem_set hx with h1 | rfl
  · exact h x h1
  · exact hz

theorem doR_ok {q : Int} {l l' : List Rw} {o : Op} (hb : BsOk q l) (h : doR q l o = some l') : BsOk (q + 1) l' := by
  rw [bs_pair] at hb ⊢
  obtain ⟨h1, h2, h3, h4⟩ := hb
  unfold doR at h
  by_cases hq : q ≥ 100000
  · rw [if_pos hq] at h; cases h
  rw [if_neg hq] at h
  have hq2 : 0 ≤ q + 1 ∧ q + 1 ≤ 100000 := by omega
  by_cases o1 : o.1 = 1
  · rw [if_pos o1] at h
    split at h
    · rename_i hr
      split at h
      · rename_i hi
        cases h
        exact ⟨by rw [List.length_set]; exact h1, hq2, mem_set_ok hr.1 h3, pair_set hi (idxR_at hi).symm h4⟩
      · rename_i hi
        split at h
        · cases h
        · rename_i h12
          cases h
          have hp := posR_le l o.2.1
          have hno : ∀ j, (hj : j < l.length) → l[j].1 ≠ o.2.1 := fun j hj => idxR_no (by omega)
          refine ⟨?_, hq2, ?_, ?_⟩
          · unfold insR
            rw [List.length_append, List.length_cons, List.length_take, List.length_drop]
            omega
          · intro z hz
            unfold insR at hz
            rcases List.mem_append.1 hz with hz | hz
            · exact h3 z (List.mem_of_mem_take hz)
            · rcases List.mem_cons.1 hz with rfl | hz
              · exact hr.1
              · exact h3 z (List.mem_of_mem_drop hz)
          · have h5 := h4
            rw [← List.take_append_drop (posR l o.2.1) l, List.pairwise_append] at h5
            unfold insR
            rw [List.pairwise_append]
            refine ⟨h5.1, List.pairwise_cons.2 ⟨fun a ha => ?_, h5.2.1⟩, fun a ha b hb => ?_⟩
            · obtain ⟨j, hj, rfl⟩ := List.mem_iff_getElem.1 ha
              rw [List.length_drop] at hj
              rw [List.getElem_drop]
              have hpl : posR l o.2.1 < l.length := by omega
              have := posR_at hpl
              rcases Nat.eq_zero_or_pos j with rfl | h0
              · exact this
              · have := List.pairwise_iff_getElem.1 h4 (posR l o.2.1) (posR l o.2.1 + j) hpl (by omega) (by omega)
                omega
            · rcases List.mem_cons.1 hb with rfl | hb
              · obtain ⟨j, hj, rfl⟩ := List.mem_iff_getElem.1 ha
                rw [List.length_take] at hj
                rw [List.getElem_take]
                have n1 := posR_no (l := l) (w := o.2.1) (i := j) (by omega)
                have n2 := hno j (by omega)
                omega
              · exact h5.2.2 a ha b hb
    · cases h
  rw [if_neg o1] at h
  by_cases o2 : o.1 = 2
  · rw [if_pos o2] at h
    split at h
    · cases h
      refine ⟨by have := List.length_eraseIdx_le l (idxR l o.2.1); omega, hq2, fun z hz => h3 z ((List.eraseIdx_sublist l _).subset hz), h4.sublist (List.eraseIdx_sublist l _)⟩
    · cases h
  rw [if_neg o2] at h
  by_cases o3 : o.1 = 3
  · rw [if_pos o3] at h
    split at h
    · rename_i hi
      cases h
      unfold offR
      rw [List.getElem?_eq_getElem hi]
      refine ⟨by rw [List.length_set]; exact h1, hq2, mem_set_ok ?_ h3, pair_set hi rfl h4⟩
      have := h3 _ (List.getElem_mem hi)
      rw [rowOk_t] at this ⊢
      exact this
    · cases h
  rw [if_neg o3] at h
  cases h

/-- What BaseDo answers. -/
noncomputable def doS (q : Int) (l : List Rw) (o : Op) : Int × List Rw × Bool := match doR q l o with
  | some l' => (q + 1, l', true)
  | none => (q, l, false)
noncomputable def doA (q : Int) (l : List Rw) (o : Op) : Int × List Rw × Bool := if bsOk q l = true then doS q l o else (0, [], false)
theorem doS_ok {q : Int} {l : List Rw} {o : Op} (hb : BsOk q l) : BsOk (doS q l o).1 (doS q l o).2.1 := by
  unfold doS
  cases h : doR q l o with
  | none => exact hb
  | some l' => exact doR_ok hb h
end Go.Proofs.Ytokicdkdllndpaa.Ev

/- What a store's text says is the store: plain. -/
namespace Go.Proofs.Ytokicdkdllndpaa.Ev
set_option linter.all false
open Go

end Go.Proofs.Ytokicdkdllndpaa.Ev
