/- Texts of this proof, laid one behind the other: what each shows stands at its head. -/
import Derived.Test.YtpdkgbamakileaaB3
import Derived.Test.YtpdkgbamakileaaB4
/- The law AuditRead. -/
namespace Go.Proofs.Ytpdkgbamakileaa.Ev
set_option linter.all false
open Go
set_option maxRecDepth 4000

theorem f28 {m : Md} {H : Hp} {v : Value} {l : List ByteArray} (hl : SlS H v l) (hle : l.length ≤ 1048576) (hw : Wr m H) : Fun EE m 28 [v] H fun r H' => FreshS eS 1 H r H' l := by
  refine fun_f rfl rfl k28 (by simp [c28]) ?_
  obtain ⟨g1, g2⟩ := make_sl (R := En eS) (esz := 1) (H := H) (z := ⟨#[]⟩) (zero := [.string ⟨#[]⟩]) (n := l.length) (bytes := 16) rfl rfl (by unfold room; omega) (by unfold room; omega)
  generalize hsv : (Value.slice (some ⟨H.length, 0, some 1⟩) l.length (l.length * 1)) = sv at g1 g2
  have hown : OwnS H.length sv := .inr ⟨_, _, _, _, hsv.symm, Nat.le_refl _⟩
  have hids : idsOf sv = [H.length] := by rw [← hsv]; rfl
  have hwid : m.wr H.length = true := hw _ (Nat.le_refl _)
  simp only [go_sem, ↓reduceIte, Nat.reduceEqDiff, reduceCtorEq, Nat.reduceAdd, Nat.reduceLeDiff, Nat.reduceMul, c28, hl.len]
  rw [g2 _ _ _ rfl rfl rfl]
  simp only [go_sem, ↓reduceIte, Nat.reduceEqDiff, reduceCtorEq, Nat.reduceAdd, Nat.reduceLeDiff, Nat.reduceMul]
  refine go_for l.length (fun i s => H <+: s.H ∧ s.ρ 0 = .val v ∧ s.ρ 3 = .val sv ∧ s.ρ 4 = .val (.int .i64 i) ∧ SlS s.H sv (l.take i ++ List.replicate (l.length - i) ⟨#[]⟩))
    (fun s => H <+: s.H ∧ s.ρ 3 = .val sv ∧ SlS s.H sv l) ?_ ?_ ?_
  · exact ⟨List.prefix_append _ _, by simp [upd, ini], by simp [upd], by simp [upd], by simpa using g1⟩
  · rintro i s hi ⟨hH, h0, h3, h4, hs⟩
    have hl' := hl.pre hH
    have hw' := hw.pre hH
    simp only [go_sem, ↓reduceIte, Nat.reduceEqDiff, reduceCtorEq, Nat.reduceAdd, Nat.reduceLeDiff, Nat.reduceMul, h0, h3, h4, hl'.len]
    refine brT.intro (fun h1 => ?_) (fun h1 => ?_) <;> simp only [go_sem, ↓reduceIte, Nat.reduceEqDiff, reduceCtorEq, Nat.reduceAdd, Nat.reduceLeDiff, Nat.reduceMul, h0, h3, h4]
    · have h2 : i < l.length := by simpa using h1
      obtain ⟨id, p, o, ho, hr, hia⟩ := hl'.str (List.getElem?_eq_getElem h2)
      obtain ⟨id2, p2, o2, ho2, hp2, hid, hia2, hst⟩ := hs.store (i := i) (by simp; omega)
      have hid' : id2 = H.length := by rw [hids] at hid; simpa using hid.symm
      subst hid'
      simp only [go_sem, ↓reduceIte, Nat.reduceEqDiff, reduceCtorEq, Nat.reduceAdd, Nat.reduceLeDiff, Nat.reduceMul, h0, h3, h4, hia, ho, hr, hia2, ho2, hp2, hwid, wrap64 ((i : Int) + 1) (by omega) (by omega)]
      refine ⟨h2, pre_set hH (Nat.le_refl _), by simp, ?_⟩
      have := hst l[i] (eS l[i]) rfl rfl
      rw [List.take_succ_eq_append_getElem h2, List.append_assoc, List.singleton_append]
      rw [List.set_append_right _ _ (by simp; omega), show i - (l.take i).length = 0 by simp; omega, show l.length - i = (l.length - (i + 1)) + 1 by omega, List.replicate_succ, List.set_cons_zero] at this
      exact this
    · have h2 : ¬ i < l.length := by simpa using h1
      rw [List.take_of_length_le (by omega), show l.length - i = 0 by omega] at hs
      simp only [List.replicate_zero, List.append_nil] at hs
      exact ⟨hH, hs⟩
  · rintro s ⟨hH, h3, hs⟩
    simp only [go_sem, ↓reduceIte, Nat.reduceEqDiff, reduceCtorEq, Nat.reduceAdd, Nat.reduceLeDiff, Nat.reduceMul, h3]
    exact ⟨hH, hs, hown⟩

end Go.Proofs.Ytpdkgbamakileaa.Ev

/- Code of the program's functions, as the small machine has it: written by mkcode.py. -/
namespace Go.Proofs.Ytpdkgbamakileaa.Ev
set_option linter.all false
open Go
def c8 : CF := ⟨45, (.seq (.reg false [⟨(some 2), .none, (.boxV (.t 0)), 0, []⟩, ⟨(some 4), .none, (.mov (.c (.bool false))), 1, []⟩]) (.seq (.reg false [⟨(some 5), .none, (.mov (.c (.int .i64 1048576))), 0, []⟩]) (.seq (.reg false [⟨(some 10), .none, (.load 2 true (.t 2)), 0, []⟩, ⟨(some 11), .none, (.mov (.t 5)), 1, []⟩, ⟨(some 12), .none, (.call 35 [(.t 10), (.t 11)]), 2, []⟩, ⟨(some 5), .none, (.mov (.t 12)), 3, []⟩]) (.seq (.seq (.reg false [⟨(some 13), .none, (.mov (.t 5)), 0, []⟩, ⟨(some 14), .none, (.bin .lss (.t 13) (.c (.int .i64 0))), 1, []⟩]) (.cond (.t 14) (.seq (.reg false [⟨(some 4), .none, (.mov (.c (.bool true))), 0, []⟩]) .ret) .skip)) (.seq (.reg false [⟨(some 15), .none, (.mov (.t 1)), 0, []⟩, ⟨(some 16), .none, (.mov (.t 5)), 1, []⟩, ⟨(some 17), .none, (.call 36 [(.t 15), (.t 16)]), 2, []⟩, ⟨(some 5), .none, (.mov (.t 17)), 3, []⟩]) (.seq (.seq (.reg false [⟨(some 18), .none, (.mov (.t 5)), 0, []⟩, ⟨(some 19), .none, (.bin .lss (.t 18) (.c (.int .i64 0))), 1, []⟩]) (.cond (.t 19) (.seq (.reg false [⟨(some 4), .none, (.mov (.c (.bool true))), 0, []⟩]) .ret) .skip)) (.seq (.reg false [⟨(some 20), .none, (.load 2 true (.t 2)), 0, []⟩, ⟨(some 21), .none, (.call 38 [(.t 20)]), 1, []⟩, ⟨(some 22), .none, (.mov (.t 1)), 2, []⟩, ⟨(some 23), .none, (.call 39 [(.t 22)]), 3, []⟩, ⟨(some 24), .none, (.call 37 [(.t 21), (.t 23)]), 4, []⟩, ⟨(some 6), .none, (.mov (.t 24)), 5, []⟩]) (.seq (.reg false [⟨(some 25), .none, (.load 2 true (.t 2)), 0, []⟩, ⟨(some 26), .none, (.call 38 [(.t 25)]), 1, []⟩, ⟨(some 7), .none, (.newV [(.slice .none 0 0), (.slice .none 0 0)]), 2, []⟩, ⟨.none, .none, (.store 2 (.t 7) (.t 26)), 3, []⟩]) (.seq (.reg false [⟨(some 27), .none, (.mov (.t 1)), 0, []⟩, ⟨(some 28), .none, (.call 39 [(.t 27)]), 1, []⟩, ⟨(some 8), .none, (.mov (.t 28)), 2, []⟩]) (.seq (.reg false [⟨(some 29), .none, (.load 2 true (.t 7)), 0, []⟩, ⟨(some 30), .none, (.mov (.t 8)), 1, []⟩, ⟨(some 31), .none, (.call 40 [(.t 29), (.t 30)]), 2, []⟩, ⟨(some 9), .none, (.mov (.t 31)), 3, []⟩]) (.seq (.seq (.reg false [⟨(some 32), .none, (.mov (.t 9)), 0, []⟩, ⟨(some 33), .none, (.mov (.t 6)), 1, []⟩, ⟨(some 34), .none, (.beq true (.t 32) (.t 33)), 2, []⟩]) (.cond (.t 34) (.seq (.reg false [⟨(some 4), .none, (.mov (.c (.bool false))), 0, []⟩]) .ret) .skip)) (.seq (.seq (.reg true [⟨(some 35), .none, (.load 2 true (.t 7)), 0, []⟩, ⟨(some 36), .none, (.load 2 true (.t 2)), 1, []⟩, ⟨(some 37), .none, (.call 38 [(.t 36)]), 2, [1]⟩, ⟨(some 38), .none, (.call 41 [(.t 35), (.t 37)]), 3, [0, 2, 1]⟩, ⟨(some 39), .none, (.un .not (.t 38)), 4, [3, 0, 2, 1]⟩]) (.cond (.t 39) (.seq (.reg false [⟨(some 4), .none, (.mov (.c (.bool false))), 0, []⟩]) .ret) .skip)) (.seq (.seq (.reg false [⟨(some 40), .none, (.mov (.t 8)), 0, []⟩, ⟨(some 41), .none, (.mov (.t 1)), 1, []⟩, ⟨(some 42), .none, (.call 39 [(.t 41)]), 2, []⟩, ⟨(some 43), .none, (.call 42 [(.t 40), (.t 42)]), 3, []⟩, ⟨(some 44), .none, (.un .not (.t 43)), 4, []⟩]) (.cond (.t 44) (.seq (.reg false [⟨(some 4), .none, (.mov (.c (.bool false))), 0, []⟩]) .ret) .skip)) (.seq (.reg false [⟨(some 4), .none, (.mov (.c (.bool true))), 0, []⟩]) .ret)))))))))))))), [(.t 4)]⟩
theorem k8 : EE.fns 8 = some c8 := by kernel_rfl
def c35 : CF := ⟨18, (.seq (.reg false [⟨(some 2), .none, (.boxV (.t 0)), 0, []⟩, ⟨(some 4), .none, (.mov (.c (.int .i64 0))), 1, []⟩]) (.seq (.reg false [⟨(some 5), .none, (.fadr 0 (.t 2)), 0, []⟩, ⟨(some 6), .none, (.load 1 false (.t 5)), 1, []⟩, ⟨(some 7), .none, (.mov (.t 1)), 2, []⟩, ⟨(some 8), .none, (.call 26 [(.t 6), (.t 7)]), 3, []⟩, ⟨(some 1), .none, (.mov (.t 8)), 4, []⟩]) (.seq (.seq (.reg false [⟨(some 9), .none, (.mov (.t 1)), 0, []⟩, ⟨(some 10), .none, (.bin .lss (.t 9) (.c (.int .i64 0))), 1, []⟩]) (.cond (.t 10) (.seq (.reg false [⟨(some 4), .none, (.mov (.c (.int .i64 (-1)))), 0, []⟩]) .ret) .skip)) (.seq (.reg false [⟨(some 11), .none, (.fadr 1 (.t 2)), 0, []⟩, ⟨(some 12), .none, (.load 1 false (.t 11)), 1, []⟩, ⟨(some 13), .none, (.mov (.t 1)), 2, []⟩, ⟨(some 14), .none, (.call 71 [(.t 12), (.t 13)]), 3, []⟩, ⟨(some 1), .none, (.mov (.t 14)), 4, []⟩]) (.seq (.seq (.reg false [⟨(some 15), .none, (.mov (.t 1)), 0, []⟩, ⟨(some 16), .none, (.bin .lss (.t 15) (.c (.int .i64 0))), 1, []⟩]) (.cond (.t 16) (.seq (.reg false [⟨(some 4), .none, (.mov (.c (.int .i64 (-1)))), 0, []⟩]) .ret) .skip)) (.seq (.reg false [⟨(some 17), .none, (.mov (.t 1)), 0, []⟩, ⟨(some 4), .none, (.mov (.t 17)), 1, []⟩]) .ret)))))), [(.t 4)]⟩
theorem k35 : EE.fns 35 = some c35 := by kernel_rfl
def c36 : CF := ⟨27, (.seq (.reg false [⟨(some 4), .none, (.mov (.c (.int .i64 0))), 0, []⟩]) (.seq (.reg false [⟨(some 6), .none, (.mov (.t 1)), 0, []⟩, ⟨(some 7), .none, (.mov (.t 0)), 1, []⟩, ⟨(some 8), .none, (.lenS (.t 7)), 2, []⟩, ⟨(some 9), .none, (.bin .sub (.t 6) (.t 8)), 3, []⟩, ⟨(some 1), .none, (.mov (.t 9)), 4, []⟩]) (.seq (.seq (.reg false [⟨(some 10), .none, (.mov (.t 1)), 0, []⟩, ⟨(some 11), .none, (.bin .lss (.t 10) (.c (.int .i64 0))), 1, []⟩]) (.cond (.t 11) (.seq (.reg false [⟨(some 4), .none, (.mov (.c (.int .i64 (-1)))), 0, []⟩]) .ret) .skip)) (.seq (.seq (.reg false [⟨(some 5), .none, (.mov (.c (.int .i64 0))), 0, []⟩]) (.block 0 (.loop (.seq (.seq (.reg false [⟨(some 12), .none, (.mov (.t 5)), 0, []⟩, ⟨(some 13), .none, (.mov (.t 0)), 1, []⟩, ⟨(some 14), .none, (.lenS (.t 13)), 2, []⟩, ⟨(some 15), .none, (.bin .lss (.t 12) (.t 14)), 3, []⟩]) (.cond (.t 15) .skip (.exit 0))) (.seq (.block 1 (.seq (.reg false [⟨(some 18), .none, (.mov (.t 0)), 0, []⟩, ⟨(some 19), .none, (.mov (.t 5)), 1, []⟩, ⟨(some 20), .none, (.iadr 3 (.t 18) (.t 19)), 2, []⟩, ⟨(some 21), .none, (.load 3 true (.t 20)), 3, []⟩, ⟨(some 22), .none, (.mov (.t 1)), 4, []⟩, ⟨(some 23), .none, (.call 72 [(.t 21), (.t 22)]), 5, []⟩, ⟨(some 1), .none, (.mov (.t 23)), 6, []⟩]) (.seq (.reg false [⟨(some 24), .none, (.mov (.t 1)), 0, []⟩, ⟨(some 25), .none, (.bin .lss (.t 24) (.c (.int .i64 0))), 1, []⟩]) (.cond (.t 25) (.seq (.reg false [⟨(some 4), .none, (.mov (.c (.int .i64 (-1)))), 0, []⟩]) .ret) .skip)))) (.reg false [⟨(some 16), .none, (.mov (.t 5)), 0, []⟩, ⟨(some 17), .none, (.bin .add (.t 16) (.c (.int .i64 1))), 1, []⟩, ⟨(some 5), .none, (.mov (.t 17)), 2, []⟩])))))) (.seq (.reg false [⟨(some 26), .none, (.mov (.t 1)), 0, []⟩, ⟨(some 4), .none, (.mov (.t 26)), 1, []⟩]) .ret))))), [(.t 4)]⟩
theorem k36 : EE.fns 36 = some c36 := by kernel_rfl
def c37 : CF := ⟨20, (.seq (.reg false [⟨(some 2), .none, (.boxV (.t 0)), 0, []⟩, ⟨(some 4), .none, (.mov (.c (.bool false))), 1, []⟩]) (.seq (.seq (.reg false [⟨(some 6), .none, (.load 2 true (.t 2)), 0, []⟩, ⟨(some 7), .none, (.call 49 [(.t 6)]), 1, []⟩, ⟨(some 8), .none, (.un .not (.t 7)), 2, []⟩]) (.cond (.t 8) (.seq (.reg false [⟨(some 4), .none, (.mov (.c (.bool false))), 0, []⟩]) .ret) .skip)) (.seq (.seq (.reg false [⟨(some 5), .none, (.mov (.c (.int .i64 0))), 0, []⟩]) (.block 0 (.loop (.seq (.seq (.reg false [⟨(some 9), .none, (.mov (.t 5)), 0, []⟩, ⟨(some 10), .none, (.mov (.t 1)), 1, []⟩, ⟨(some 11), .none, (.lenS (.t 10)), 2, []⟩, ⟨(some 12), .none, (.bin .lss (.t 9) (.t 11)), 3, []⟩]) (.cond (.t 12) .skip (.exit 0))) (.seq (.block 1 (.seq (.reg false [⟨(some 15), .none, (.load 2 true (.t 2)), 0, []⟩, ⟨(some 16), .none, (.mov (.t 1)), 1, []⟩, ⟨(some 17), .none, (.mov (.t 5)), 2, []⟩, ⟨(some 18), .none, (.call 73 [(.t 15), (.t 16), (.t 17)]), 3, []⟩, ⟨(some 19), .none, (.un .not (.t 18)), 4, []⟩]) (.cond (.t 19) (.seq (.reg false [⟨(some 4), .none, (.mov (.c (.bool false))), 0, []⟩]) .ret) .skip))) (.reg false [⟨(some 13), .none, (.mov (.t 5)), 0, []⟩, ⟨(some 14), .none, (.bin .add (.t 13) (.c (.int .i64 1))), 1, []⟩, ⟨(some 5), .none, (.mov (.t 14)), 2, []⟩])))))) (.seq (.reg false [⟨(some 4), .none, (.mov (.c (.bool true))), 0, []⟩]) .ret)))), [(.t 4)]⟩
theorem k37 : EE.fns 37 = some c37 := by kernel_rfl
def c38 : CF := ⟨13, (.seq (.reg false [⟨(some 1), .none, (.boxV (.t 0)), 0, []⟩, ⟨(some 2), .none, (.newV [(.slice .none 0 0), (.slice .none 0 0)]), 1, []⟩]) (.seq (.reg false [⟨(some 3), .none, (.newV [(.slice .none 0 0), (.slice .none 0 0)]), 0, []⟩]) (.seq (.reg false [⟨(some 4), .none, (.fadr 0 (.t 1)), 0, []⟩, ⟨(some 5), .none, (.load 1 false (.t 4)), 1, []⟩, ⟨(some 6), .none, (.call 28 [(.t 5)]), 2, []⟩, ⟨(some 7), .none, (.fadr 0 (.t 3)), 3, []⟩, ⟨.none, .none, (.store 1 (.t 7) (.t 6)), 4, []⟩]) (.seq (.reg false [⟨(some 8), .none, (.fadr 1 (.t 1)), 0, []⟩, ⟨(some 9), .none, (.load 1 false (.t 8)), 1, []⟩, ⟨(some 10), .none, (.call 74 [(.t 9)]), 2, []⟩, ⟨(some 11), .none, (.fadr 1 (.t 3)), 3, []⟩, ⟨.none, .none, (.store 1 (.t 11) (.t 10)), 4, []⟩]) (.seq (.reg false [⟨(some 12), .none, (.load 2 true (.t 3)), 0, []⟩, ⟨.none, .none, (.store 2 (.t 2) (.t 12)), 1, []⟩]) .ret))))), [(.cell 2 2 true)]⟩
theorem k38 : EE.fns 38 = some c38 := by kernel_rfl
def c39 : CF := ⟨23, (.seq (.reg false [⟨(some 2), .none, (.mov (.c (.slice .none 0 0))), 0, []⟩]) (.seq (.reg false [⟨(some 5), .none, (.mov (.t 0)), 0, []⟩, ⟨(some 6), .none, (.lenS (.t 5)), 1, []⟩, ⟨(some 7), .none, (.makeS 3 32 [(.string ⟨#[]⟩), (.int .i64 0), (.int .i64 0)] (.t 6) (.t 6)), 2, []⟩, ⟨(some 3), .none, (.mov (.t 7)), 3, []⟩]) (.seq (.seq (.reg false [⟨(some 4), .none, (.mov (.c (.int .i64 0))), 0, []⟩]) (.block 0 (.loop (.seq (.seq (.reg false [⟨(some 8), .none, (.mov (.t 4)), 0, []⟩, ⟨(some 9), .none, (.mov (.t 0)), 1, []⟩, ⟨(some 10), .none, (.lenS (.t 9)), 2, []⟩, ⟨(some 11), .none, (.bin .lss (.t 8) (.t 10)), 3, []⟩]) (.cond (.t 11) .skip (.exit 0))) (.seq (.block 1 (.reg false [⟨(some 14), .none, (.mov (.t 3)), 0, []⟩, ⟨(some 15), .none, (.mov (.t 4)), 1, []⟩, ⟨(some 16), .none, (.mov (.t 0)), 2, []⟩, ⟨(some 17), .none, (.mov (.t 4)), 3, []⟩, ⟨(some 18), .none, (.iadr 3 (.t 16) (.t 17)), 4, []⟩, ⟨(some 19), .none, (.load 3 true (.t 18)), 5, []⟩, ⟨(some 20), .none, (.call 75 [(.t 19)]), 6, []⟩, ⟨(some 21), .none, (.iadr 3 (.t 14) (.t 15)), 7, []⟩, ⟨.none, .none, (.store 3 (.t 21) (.t 20)), 8, []⟩])) (.reg false [⟨(some 12), .none, (.mov (.t 4)), 0, []⟩, ⟨(some 13), .none, (.bin .add (.t 12) (.c (.int .i64 1))), 1, []⟩, ⟨(some 4), .none, (.mov (.t 13)), 2, []⟩])))))) (.seq (.reg false [⟨(some 22), .none, (.mov (.t 3)), 0, []⟩, ⟨(some 2), .none, (.mov (.t 22)), 1, []⟩]) .ret)))), [(.t 2)]⟩
theorem k39 : EE.fns 39 = some c39 := by kernel_rfl
def c40 : CF := ⟨19, (.seq (.reg false [⟨(some 2), .none, (.boxV (.t 0)), 0, []⟩, ⟨(some 4), .none, (.mov (.c (.bool false))), 1, []⟩]) (.seq (.seq (.reg false [⟨(some 6), .none, (.mov (.t 1)), 0, []⟩, ⟨(some 7), .none, (.lenS (.t 6)), 1, []⟩, ⟨(some 8), .none, (.mov (.c (.int .i64 0))), 2, []⟩]) (.block 0 (.loop (.seq (.reg false [⟨(some 9), .none, (.bin .lss (.t 8) (.t 7)), 0, []⟩]) (.seq (.cond (.t 9) .skip (.exit 0)) (.seq (.block 1 (.seq (.reg false [⟨(some 10), .none, (.mov (.t 8)), 0, []⟩, ⟨(some 5), .none, (.mov (.t 10)), 1, []⟩]) (.seq (.reg false [⟨(some 11), .none, (.load 2 true (.t 2)), 0, []⟩, ⟨(some 12), .none, (.mov (.t 1)), 1, []⟩, ⟨(some 13), .none, (.mov (.t 5)), 2, []⟩, ⟨(some 14), .none, (.call 76 [(.t 11), (.t 12), (.t 13)]), 3, []⟩, ⟨(some 15), .none, (.un .not (.t 14)), 4, []⟩]) (.cond (.t 15) (.seq (.reg false [⟨(some 4), .none, (.mov (.c (.bool false))), 0, []⟩]) .ret) .skip)))) (.reg false [⟨(some 16), .none, (.bin .add (.t 8) (.c (.int .i64 1))), 0, []⟩, ⟨(some 8), .none, (.mov (.t 16)), 1, []⟩]))))))) (.seq (.reg false [⟨(some 17), .none, (.load 2 true (.t 2)), 0, []⟩, ⟨(some 18), .none, (.call 77 [(.t 17)]), 1, []⟩, ⟨(some 4), .none, (.mov (.t 18)), 2, []⟩]) .ret))), [(.t 4)]⟩
theorem k40 : EE.fns 40 = some c40 := by kernel_rfl
def c41 : CF := ⟨17, (.seq (.reg false [⟨(some 2), .none, (.boxV (.t 0)), 0, []⟩, ⟨(some 3), .none, (.boxV (.t 1)), 1, []⟩, ⟨(some 4), .none, (.mov (.c (.bool false))), 2, []⟩]) (.seq (.seq (.reg false [⟨(some 5), .none, (.fadr 0 (.t 2)), 0, []⟩, ⟨(some 6), .none, (.load 1 false (.t 5)), 1, []⟩, ⟨(some 7), .none, (.fadr 0 (.t 3)), 2, []⟩, ⟨(some 8), .none, (.load 1 false (.t 7)), 3, []⟩, ⟨(some 9), .none, (.call 21 [(.t 6), (.t 8)]), 4, []⟩, ⟨(some 10), .none, (.un .not (.t 9)), 5, []⟩]) (.cond (.t 10) (.seq (.reg false [⟨(some 4), .none, (.mov (.c (.bool false))), 0, []⟩]) .ret) .skip)) (.seq (.seq (.reg false [⟨(some 11), .none, (.fadr 1 (.t 2)), 0, []⟩, ⟨(some 12), .none, (.load 1 false (.t 11)), 1, []⟩, ⟨(some 13), .none, (.fadr 1 (.t 3)), 2, []⟩, ⟨(some 14), .none, (.load 1 false (.t 13)), 3, []⟩, ⟨(some 15), .none, (.call 78 [(.t 12), (.t 14)]), 4, []⟩, ⟨(some 16), .none, (.un .not (.t 15)), 5, []⟩]) (.cond (.t 16) (.seq (.reg false [⟨(some 4), .none, (.mov (.c (.bool false))), 0, []⟩]) .ret) .skip)) (.seq (.reg false [⟨(some 4), .none, (.mov (.c (.bool true))), 0, []⟩]) .ret)))), [(.t 4)]⟩
theorem k41 : EE.fns 41 = some c41 := by kernel_rfl
def c42 : CF := ⟨27, (.seq (.reg false [⟨(some 4), .none, (.mov (.c (.bool false))), 0, []⟩]) (.seq (.seq (.reg false [⟨(some 6), .none, (.mov (.t 0)), 0, []⟩, ⟨(some 7), .none, (.lenS (.t 6)), 1, []⟩, ⟨(some 8), .none, (.mov (.t 1)), 2, []⟩, ⟨(some 9), .none, (.lenS (.t 8)), 3, []⟩, ⟨(some 10), .none, (.bin .neq (.t 7) (.t 9)), 4, []⟩]) (.cond (.t 10) (.seq (.reg false [⟨(some 4), .none, (.mov (.c (.bool false))), 0, []⟩]) .ret) .skip)) (.seq (.seq (.reg false [⟨(some 5), .none, (.mov (.c (.int .i64 0))), 0, []⟩]) (.block 0 (.loop (.seq (.seq (.reg false [⟨(some 11), .none, (.mov (.t 5)), 0, []⟩, ⟨(some 12), .none, (.mov (.t 0)), 1, []⟩, ⟨(some 13), .none, (.lenS (.t 12)), 2, []⟩, ⟨(some 14), .none, (.bin .lss (.t 11) (.t 13)), 3, []⟩]) (.cond (.t 14) .skip (.exit 0))) (.seq (.block 1 (.seq (.reg true [⟨(some 17), .none, (.mov (.t 0)), 0, []⟩, ⟨(some 18), .none, (.mov (.t 5)), 1, []⟩, ⟨(some 19), .none, (.iadr 3 (.t 17) (.t 18)), 2, [0, 1]⟩, ⟨(some 20), .none, (.load 3 true (.t 19)), 3, [2, 0, 1]⟩, ⟨(some 21), .none, (.mov (.t 1)), 4, []⟩, ⟨(some 22), .none, (.mov (.t 5)), 5, []⟩, ⟨(some 23), .none, (.iadr 3 (.t 21) (.t 22)), 6, [4, 5]⟩, ⟨(some 24), .none, (.load 3 true (.t 23)), 7, [6, 4, 5]⟩, ⟨(some 25), .none, (.call 79 [(.t 20), (.t 24)]), 8, [3, 2, 0, 1, 7, 6, 4, 5]⟩, ⟨(some 26), .none, (.un .not (.t 25)), 9, [8, 3, 2, 0, 1, 7, 6, 4, 5]⟩]) (.cond (.t 26) (.seq (.reg false [⟨(some 4), .none, (.mov (.c (.bool false))), 0, []⟩]) .ret) .skip))) (.reg false [⟨(some 15), .none, (.mov (.t 5)), 0, []⟩, ⟨(some 16), .none, (.bin .add (.t 15) (.c (.int .i64 1))), 1, []⟩, ⟨(some 5), .none, (.mov (.t 16)), 2, []⟩])))))) (.seq (.reg false [⟨(some 4), .none, (.mov (.c (.bool true))), 0, []⟩]) .ret)))), [(.t 4)]⟩
theorem k42 : EE.fns 42 = some c42 := by kernel_rfl
def c49 : CF := ⟨73, (.seq (.reg false [⟨(some 1), .none, (.boxV (.t 0)), 0, []⟩, ⟨(some 2), .none, (.mov (.c (.bool false))), 1, []⟩]) (.seq (.seq (.reg false [⟨(some 5), .none, (.fadr 0 (.t 1)), 0, []⟩, ⟨(some 6), .none, (.load 1 false (.t 5)), 1, []⟩, ⟨(some 7), .none, (.lenS (.t 6)), 2, []⟩, ⟨(some 8), .none, (.bin .gtr (.t 7) (.c (.int .i64 60))), 3, []⟩, ⟨(some 9), .none, (.mov (.t 8)), 4, []⟩, ⟨(some 10), (.some (9, false)), (.fadr 1 (.t 1)), 5, []⟩, ⟨(some 11), (.some (9, false)), (.load 1 false (.t 10)), 6, []⟩, ⟨(some 12), (.some (9, false)), (.lenS (.t 11)), 7, []⟩, ⟨(some 13), (.some (9, false)), (.bin .gtr (.t 12) (.c (.int .i64 40))), 8, []⟩, ⟨(some 14), .none, (.pick (.t 9) (.c (.bool true)) (.t 13)), 9, []⟩]) (.cond (.t 14) (.seq (.reg false [⟨(some 2), .none, (.mov (.c (.bool false))), 0, []⟩]) .ret) .skip)) (.seq (.seq (.reg false [⟨(some 3), .none, (.mov (.c (.int .i64 0))), 0, []⟩]) (.block 0 (.loop (.seq (.seq (.reg false [⟨(some 15), .none, (.mov (.t 3)), 0, []⟩, ⟨(some 16), .none, (.fadr 0 (.t 1)), 1, []⟩, ⟨(some 17), .none, (.load 1 false (.t 16)), 2, []⟩, ⟨(some 18), .none, (.lenS (.t 17)), 3, []⟩, ⟨(some 19), .none, (.bin .lss (.t 15) (.t 18)), 4, []⟩]) (.cond (.t 19) .skip (.exit 0))) (.seq (.block 1 (.seq (.reg true [⟨(some 22), .none, (.fadr 0 (.t 1)), 0, []⟩, ⟨(some 23), .none, (.load 1 false (.t 22)), 1, [0]⟩, ⟨(some 24), .none, (.mov (.t 3)), 2, []⟩, ⟨(some 25), .none, (.iadr 1 (.t 23) (.t 24)), 3, [1, 0, 2]⟩, ⟨(some 26), .none, (.load 1 false (.t 25)), 4, [3, 1, 0, 2]⟩, ⟨(some 27), .none, (.call 88 [(.t 26)]), 5, [4, 3, 1, 0, 2]⟩, ⟨(some 28), .none, (.un .not (.t 27)), 6, [5, 4, 3, 1, 0, 2]⟩, ⟨(some 29), .none, (.mov (.t 28)), 7, [6, 5, 4, 3, 1, 0, 2]⟩, ⟨(some 30), (.some (29, false)), (.fadr 0 (.t 1)), 8, [7, 6, 5, 4, 3, 1, 0, 2]⟩, ⟨(some 31), (.some (29, false)), (.load 1 false (.t 30)), 9, [8, 7, 6, 5, 4, 3, 1, 0, 2]⟩, ⟨(some 32), (.some (29, false)), (.mov (.t 3)), 10, [7, 6, 5, 4, 3, 1, 0, 2]⟩, ⟨(some 33), (.some (29, false)), (.slc 1 (.t 31) .none (.some (.t 32))), 11, [9, 8, 7, 6, 5, 4, 3, 1, 0, 2, 10]⟩, ⟨(some 34), (.some (29, false)), (.fadr 0 (.t 1)), 12, [7, 6, 5, 4, 3, 1, 0, 2]⟩, ⟨(some 35), (.some (29, false)), (.load 1 false (.t 34)), 13, [12, 7, 6, 5, 4, 3, 1, 0, 2]⟩, ⟨(some 36), (.some (29, false)), (.mov (.t 3)), 14, [7, 6, 5, 4, 3, 1, 0, 2]⟩, ⟨(some 37), (.some (29, false)), (.iadr 1 (.t 35) (.t 36)), 15, [13, 12, 7, 6, 5, 4, 3, 1, 0, 2, 14]⟩, ⟨(some 38), (.some (29, false)), (.load 1 false (.t 37)), 16, [15, 13, 12, 7, 6, 5, 4, 3, 1, 0, 2, 14]⟩, ⟨(some 39), (.some (29, false)), (.call 89 [(.t 33), (.t 38)]), 17, [11, 9, 8, 7, 6, 5, 4, 3, 1, 0, 2, 10, 16, 15, 13, 12, 14]⟩, ⟨(some 40), .none, (.pick (.t 29) (.c (.bool true)) (.t 39)), 18, [7, 6, 5, 4, 3, 1, 0, 2, 17, 11, 9, 8, 10, 16, 15, 13, 12, 14]⟩]) (.cond (.t 40) (.seq (.reg false [⟨(some 2), .none, (.mov (.c (.bool false))), 0, []⟩]) .ret) .skip))) (.reg false [⟨(some 20), .none, (.mov (.t 3)), 0, []⟩, ⟨(some 21), .none, (.bin .add (.t 20) (.c (.int .i64 1))), 1, []⟩, ⟨(some 3), .none, (.mov (.t 21)), 2, []⟩])))))) (.seq (.seq (.reg false [⟨(some 4), .none, (.mov (.c (.int .i64 0))), 0, []⟩]) (.block 2 (.loop (.seq (.seq (.reg false [⟨(some 41), .none, (.mov (.t 4)), 0, []⟩, ⟨(some 42), .none, (.fadr 1 (.t 1)), 1, []⟩, ⟨(some 43), .none, (.load 1 false (.t 42)), 2, []⟩, ⟨(some 44), .none, (.lenS (.t 43)), 3, []⟩, ⟨(some 45), .none, (.bin .lss (.t 41) (.t 44)), 4, []⟩]) (.cond (.t 45) .skip (.exit 2))) (.seq (.block 3 (.seq (.reg true [⟨(some 48), .none, (.fadr 1 (.t 1)), 0, []⟩, ⟨(some 49), .none, (.load 1 false (.t 48)), 1, [0]⟩, ⟨(some 50), .none, (.mov (.t 4)), 2, []⟩, ⟨(some 51), .none, (.iadr 1 (.t 49) (.t 50)), 3, [1, 0, 2]⟩, ⟨(some 52), .none, (.load 1 false (.t 51)), 4, [3, 1, 0, 2]⟩, ⟨(some 53), .none, (.call 90 [(.t 52), (.c (.int .i64 1)), (.c (.int .i64 1000000))]), 5, [4, 3, 1, 0, 2]⟩, ⟨(some 54), .none, (.un .not (.t 53)), 6, [5, 4, 3, 1, 0, 2]⟩, ⟨(some 55), .none, (.mov (.t 54)), 7, [6, 5, 4, 3, 1, 0, 2]⟩, ⟨(some 56), (.some (55, false)), (.mov (.t 4)), 8, [7, 6, 5, 4, 3, 1, 0, 2]⟩, ⟨(some 57), (.some (55, false)), (.bin .gtr (.t 56) (.c (.int .i64 0))), 9, [8, 7, 6, 5, 4, 3, 1, 0, 2]⟩, ⟨(some 58), (.some (55, false)), (.mov (.t 57)), 10, [9, 8, 7, 6, 5, 4, 3, 1, 0, 2]⟩, ⟨(some 59), (.some (58, true)), (.fadr 1 (.t 1)), 11, [10, 9, 8, 7, 6, 5, 4, 3, 1, 0, 2]⟩, ⟨(some 60), (.some (58, true)), (.load 1 false (.t 59)), 12, [11, 10, 9, 8, 7, 6, 5, 4, 3, 1, 0, 2]⟩, ⟨(some 61), (.some (58, true)), (.mov (.t 4)), 13, [10, 9, 8, 7, 6, 5, 4, 3, 1, 0, 2]⟩, ⟨(some 62), (.some (58, true)), (.bin .sub (.t 61) (.c (.int .i64 1))), 14, [13, 10, 9, 8, 7, 6, 5, 4, 3, 1, 0, 2]⟩, ⟨(some 63), (.some (58, true)), (.iadr 1 (.t 60) (.t 62)), 15, [12, 11, 10, 9, 8, 7, 6, 5, 4, 3, 1, 0, 2, 14, 13]⟩, ⟨(some 64), (.some (58, true)), (.load 1 false (.t 63)), 16, [15, 12, 11, 10, 9, 8, 7, 6, 5, 4, 3, 1, 0, 2, 14, 13]⟩, ⟨(some 65), (.some (58, true)), (.fadr 1 (.t 1)), 17, [10, 9, 8, 7, 6, 5, 4, 3, 1, 0, 2]⟩, ⟨(some 66), (.some (58, true)), (.load 1 false (.t 65)), 18, [17, 10, 9, 8, 7, 6, 5, 4, 3, 1, 0, 2]⟩, ⟨(some 67), (.some (58, true)), (.mov (.t 4)), 19, [10, 9, 8, 7, 6, 5, 4, 3, 1, 0, 2]⟩, ⟨(some 68), (.some (58, true)), (.iadr 1 (.t 66) (.t 67)), 20, [18, 17, 10, 9, 8, 7, 6, 5, 4, 3, 1, 0, 2, 19]⟩, ⟨(some 69), (.some (58, true)), (.load 1 false (.t 68)), 21, [20, 18, 17, 10, 9, 8, 7, 6, 5, 4, 3, 1, 0, 2, 19]⟩, ⟨(some 70), (.some (58, true)), (.bin .geq (.t 64) (.t 69)), 22, [16, 15, 12, 11, 10, 9, 8, 7, 6, 5, 4, 3, 1, 0, 2, 14, 13, 21, 20, 18, 17, 19]⟩, ⟨(some 71), (.some (55, false)), (.pick (.t 58) (.t 70) (.c (.bool false))), 23, [10, 9, 8, 7, 6, 5, 4, 3, 1, 0, 2, 22, 16, 15, 12, 11, 14, 13, 21, 20, 18, 17, 19]⟩, ⟨(some 72), .none, (.pick (.t 55) (.c (.bool true)) (.t 71)), 24, [7, 6, 5, 4, 3, 1, 0, 2, 23, 10, 9, 8, 22, 16, 15, 12, 11, 14, 13, 21, 20, 18, 17, 19]⟩]) (.cond (.t 72) (.seq (.reg false [⟨(some 2), .none, (.mov (.c (.bool false))), 0, []⟩]) .ret) .skip))) (.reg false [⟨(some 46), .none, (.mov (.t 4)), 0, []⟩, ⟨(some 47), .none, (.bin .add (.t 46) (.c (.int .i64 1))), 1, []⟩, ⟨(some 4), .none, (.mov (.t 47)), 2, []⟩])))))) (.seq (.reg false [⟨(some 2), .none, (.mov (.c (.bool true))), 0, []⟩]) .ret))))), [(.t 2)]⟩
theorem k49 : EE.fns 49 = some c49 := by kernel_rfl
def c71 : CF := ⟨12, (.seq (.reg false [⟨(some 4), .none, (.mov (.c (.int .i64 0))), 0, []⟩]) (.seq (.reg false [⟨(some 5), .none, (.mov (.t 1)), 0, []⟩, ⟨(some 6), .none, (.mov (.t 0)), 1, []⟩, ⟨(some 7), .none, (.lenS (.t 6)), 2, []⟩, ⟨(some 8), .none, (.bin .sub (.t 5) (.t 7)), 3, []⟩, ⟨(some 1), .none, (.mov (.t 8)), 4, []⟩]) (.seq (.seq (.reg false [⟨(some 9), .none, (.mov (.t 1)), 0, []⟩, ⟨(some 10), .none, (.bin .lss (.t 9) (.c (.int .i64 0))), 1, []⟩]) (.cond (.t 10) (.seq (.reg false [⟨(some 4), .none, (.mov (.c (.int .i64 (-1)))), 0, []⟩]) .ret) .skip)) (.seq (.reg false [⟨(some 11), .none, (.mov (.t 1)), 0, []⟩, ⟨(some 4), .none, (.mov (.t 11)), 1, []⟩]) .ret)))), [(.t 4)]⟩
theorem k71 : EE.fns 71 = some c71 := by kernel_rfl
def c72 : CF := ⟨13, (.seq (.reg false [⟨(some 2), .none, (.boxV (.t 0)), 0, []⟩, ⟨(some 4), .none, (.mov (.c (.int .i64 0))), 1, []⟩]) (.seq (.reg false [⟨(some 5), .none, (.mov (.t 1)), 0, []⟩, ⟨(some 6), .none, (.fadr 0 (.t 2)), 1, []⟩, ⟨(some 7), .none, (.load 1 false (.t 6)), 2, []⟩, ⟨(some 8), .none, (.lenT (.t 7)), 3, []⟩, ⟨(some 9), .none, (.bin .sub (.t 5) (.t 8)), 4, []⟩, ⟨(some 1), .none, (.mov (.t 9)), 5, []⟩]) (.seq (.seq (.reg false [⟨(some 10), .none, (.mov (.t 1)), 0, []⟩, ⟨(some 11), .none, (.bin .lss (.t 10) (.c (.int .i64 0))), 1, []⟩]) (.cond (.t 11) (.seq (.reg false [⟨(some 4), .none, (.mov (.c (.int .i64 (-1)))), 0, []⟩]) .ret) .skip)) (.seq (.reg false [⟨(some 12), .none, (.mov (.t 1)), 0, []⟩, ⟨(some 4), .none, (.mov (.t 12)), 1, []⟩]) .ret)))), [(.t 4)]⟩
theorem k72 : EE.fns 72 = some c72 := by kernel_rfl
def c73 : CF := ⟨111, (.seq (.reg false [⟨(some 3), .none, (.boxV (.t 0)), 0, []⟩, ⟨(some 6), .none, (.mov (.c (.bool false))), 1, []⟩]) (.seq (.reg false [⟨(some 16), .none, (.mov (.t 1)), 0, []⟩, ⟨(some 17), .none, (.mov (.t 2)), 1, []⟩, ⟨(some 18), .none, (.iadr 3 (.t 16) (.t 17)), 2, []⟩, ⟨(some 19), .none, (.load 3 true (.t 18)), 3, []⟩, ⟨(some 7), .none, (.newV [(.string ⟨#[]⟩), (.int .i64 0), (.int .i64 0)]), 4, []⟩, ⟨.none, .none, (.store 3 (.t 7) (.t 19)), 5, []⟩]) (.seq (.seq (.reg false [⟨(some 20), .none, (.fadr 1 (.t 7)), 0, []⟩, ⟨(some 21), .none, (.load 1 false (.t 20)), 1, []⟩, ⟨(some 22), .none, (.bin .eql (.t 21) (.c (.int .i64 (-1)))), 2, []⟩]) (.cond (.t 22) (.seq (.reg false [⟨(some 23), .none, (.fadr 2 (.t 7)), 0, []⟩, ⟨(some 24), .none, (.load 1 false (.t 23)), 1, []⟩, ⟨(some 25), .none, (.bin .eql (.t 24) (.c (.int .i64 (-1)))), 2, []⟩, ⟨(some 26), .none, (.mov (.t 25)), 3, []⟩, ⟨(some 27), (.some (26, true)), (.fadr 0 (.t 3)), 4, []⟩, ⟨(some 28), (.some (26, true)), (.load 1 false (.t 27)), 5, []⟩, ⟨(some 29), (.some (26, true)), (.fadr 0 (.t 7)), 6, []⟩, ⟨(some 30), (.some (26, true)), (.load 1 false (.t 29)), 7, []⟩, ⟨(some 31), (.some (26, true)), (.call 89 [(.t 28), (.t 30)]), 8, []⟩, ⟨(some 32), .none, (.pick (.t 26) (.t 31) (.c (.bool false))), 9, []⟩, ⟨(some 6), .none, (.mov (.t 32)), 10, []⟩]) .ret) .skip)) (.seq (.seq (.reg false [⟨(some 33), .none, (.fadr 1 (.t 7)), 0, []⟩, ⟨(some 34), .none, (.load 1 false (.t 33)), 1, []⟩, ⟨(some 35), .none, (.bin .lss (.t 34) (.c (.int .i64 0))), 2, []⟩, ⟨(some 36), .none, (.mov (.t 35)), 3, []⟩, ⟨(some 37), (.some (36, false)), (.fadr 1 (.t 7)), 4, []⟩, ⟨(some 38), (.some (36, false)), (.load 1 false (.t 37)), 5, []⟩, ⟨(some 39), (.some (36, false)), (.mov (.t 2)), 6, []⟩, ⟨(some 40), (.some (36, false)), (.bin .geq (.t 38) (.t 39)), 7, []⟩, ⟨(some 41), .none, (.pick (.t 36) (.c (.bool true)) (.t 40)), 8, []⟩]) (.cond (.t 41) (.seq (.reg false [⟨(some 6), .none, (.mov (.c (.bool false))), 0, []⟩]) .ret) .skip)) (.seq (.reg false [⟨(some 42), .none, (.mov (.t 1)), 0, []⟩, ⟨(some 43), .none, (.fadr 1 (.t 7)), 1, []⟩, ⟨(some 44), .none, (.load 1 false (.t 43)), 2, []⟩, ⟨(some 45), .none, (.iadr 3 (.t 42) (.t 44)), 3, []⟩, ⟨(some 46), .none, (.fadr 0 (.t 45)), 4, []⟩, ⟨(some 47), .none, (.load 1 false (.t 46)), 5, []⟩, ⟨(some 8), .none, (.mov (.t 47)), 6, []⟩]) (.seq (.seq (.reg false [⟨(some 48), .none, (.fadr 2 (.t 7)), 0, []⟩, ⟨(some 49), .none, (.load 1 false (.t 48)), 1, []⟩, ⟨(some 50), .none, (.bin .eql (.t 49) (.c (.int .i64 (-1)))), 2, []⟩]) (.cond (.t 50) (.seq (.reg false [⟨(some 52), .none, (.mov (.t 8)), 0, []⟩, ⟨(some 53), .none, (.call 93 [(.t 52)]), 1, []⟩, ⟨(some 51), .none, (.mov (.t 53)), 2, []⟩, ⟨(some 54), .none, (.ext (.t 51) 0), 3, []⟩, ⟨(some 55), .none, (.ext (.t 51) 1), 4, []⟩, ⟨(some 9), .none, (.mov (.t 54)), 5, []⟩, ⟨(some 10), .none, (.mov (.t 55)), 6, []⟩]) (.seq (.reg false [⟨(some 56), .none, (.mov (.t 10)), 0, []⟩, ⟨(some 57), .none, (.mov (.t 56)), 1, []⟩, ⟨(some 58), (.some (57, true)), (.mov (.t 9)), 2, []⟩, ⟨(some 59), (.some (57, true)), (.fadr 0 (.t 7)), 3, []⟩, ⟨(some 60), (.some (57, true)), (.load 1 false (.t 59)), 4, []⟩, ⟨(some 61), (.some (57, true)), (.call 89 [(.t 58), (.t 60)]), 5, []⟩, ⟨(some 62), .none, (.pick (.t 57) (.t 61) (.c (.bool false))), 6, []⟩, ⟨(some 6), .none, (.mov (.t 62)), 7, []⟩]) .ret)) .skip)) (.seq (.reg false [⟨(some 63), .none, (.mov (.t 8)), 0, []⟩, ⟨(some 64), .none, (.call 108 [(.t 63)]), 1, []⟩, ⟨(some 11), .none, (.mov (.t 64)), 2, []⟩]) (.seq (.reg false [⟨(some 66), .none, (.mov (.t 8)), 0, []⟩, ⟨(some 67), .none, (.mov (.t 11)), 1, []⟩, ⟨(some 68), .none, (.call 100 [(.t 66), (.t 67)]), 2, []⟩, ⟨(some 65), .none, (.mov (.t 68)), 3, []⟩, ⟨(some 69), .none, (.ext (.t 65) 0), 4, []⟩, ⟨(some 70), .none, (.ext (.t 65) 1), 5, []⟩, ⟨(some 12), .none, (.mov (.t 69)), 6, []⟩, ⟨(some 13), .none, (.mov (.t 70)), 7, []⟩]) (.seq (.seq (.reg false [⟨(some 71), .none, (.mov (.t 13)), 0, []⟩, ⟨(some 72), .none, (.un .not (.t 71)), 1, []⟩, ⟨(some 73), .none, (.mov (.t 72)), 2, []⟩, ⟨(some 74), (.some (73, false)), (.mov (.t 12)), 3, []⟩, ⟨(some 75), (.some (73, false)), (.fadr 0 (.t 7)), 4, []⟩, ⟨(some 76), (.some (73, false)), (.load 1 false (.t 75)), 5, []⟩, ⟨(some 77), (.some (73, false)), (.bin .neq (.t 74) (.t 76)), 6, []⟩, ⟨(some 78), .none, (.pick (.t 73) (.c (.bool true)) (.t 77)), 7, []⟩]) (.cond (.t 78) (.seq (.reg false [⟨(some 6), .none, (.mov (.c (.bool false))), 0, []⟩]) .ret) .skip)) (.seq (.seq (.reg false [⟨(some 79), .none, (.fadr 2 (.t 7)), 0, []⟩, ⟨(some 80), .none, (.load 1 false (.t 79)), 1, []⟩, ⟨(some 81), .none, (.bin .eql (.t 80) (.c (.int .i64 (-2)))), 2, []⟩]) (.cond (.t 81) (.seq (.reg false [⟨(some 82), .none, (.fadr 1 (.t 3)), 0, []⟩, ⟨(some 83), .none, (.load 1 false (.t 82)), 1, []⟩, ⟨(some 84), .none, (.mov (.t 11)), 2, []⟩, ⟨(some 85), .none, (.call 109 [(.t 83), (.t 84)]), 3, []⟩, ⟨(some 6), .none, (.mov (.t 85)), 4, []⟩]) .ret) .skip)) (.seq (.seq (.reg false [⟨(some 86), .none, (.fadr 2 (.t 7)), 0, []⟩, ⟨(some 87), .none, (.load 1 false (.t 86)), 1, []⟩, ⟨(some 88), .none, (.bin .lss (.t 87) (.c (.int .i64 0))), 2, []⟩, ⟨(some 89), .none, (.mov (.t 88)), 3, []⟩, ⟨(some 90), (.some (89, false)), (.fadr 2 (.t 7)), 4, []⟩, ⟨(some 91), (.some (89, false)), (.load 1 false (.t 90)), 5, []⟩, ⟨(some 92), (.some (89, false)), (.mov (.t 2)), 6, []⟩, ⟨(some 93), (.some (89, false)), (.bin .geq (.t 91) (.t 92)), 7, []⟩, ⟨(some 94), .none, (.pick (.t 89) (.c (.bool true)) (.t 93)), 8, []⟩]) (.cond (.t 94) (.seq (.reg false [⟨(some 6), .none, (.mov (.c (.bool false))), 0, []⟩]) .ret) .skip)) (.seq (.reg false [⟨(some 96), .none, (.mov (.t 1)), 0, []⟩, ⟨(some 97), .none, (.fadr 2 (.t 7)), 1, []⟩, ⟨(some 98), .none, (.load 1 false (.t 97)), 2, []⟩, ⟨(some 99), .none, (.iadr 3 (.t 96) (.t 98)), 3, []⟩, ⟨(some 100), .none, (.fadr 0 (.t 99)), 4, []⟩, ⟨(some 101), .none, (.load 1 false (.t 100)), 5, []⟩, ⟨(some 102), .none, (.call 110 [(.t 101)]), 6, []⟩, ⟨(some 95), .none, (.mov (.t 102)), 7, []⟩, ⟨(some 103), .none, (.ext (.t 95) 0), 8, []⟩, ⟨(some 104), .none, (.ext (.t 95) 1), 9, []⟩, ⟨(some 14), .none, (.mov (.t 103)), 10, []⟩, ⟨(some 15), .none, (.mov (.t 104)), 11, []⟩]) (.seq (.reg false [⟨(some 105), .none, (.mov (.t 15)), 0, []⟩, ⟨(some 106), .none, (.mov (.t 105)), 1, []⟩, ⟨(some 107), (.some (106, true)), (.mov (.t 14)), 2, []⟩, ⟨(some 108), (.some (106, true)), (.mov (.t 11)), 3, []⟩, ⟨(some 109), (.some (106, true)), (.bin .eql (.t 107) (.t 108)), 4, []⟩, ⟨(some 110), .none, (.pick (.t 106) (.t 109) (.c (.bool false))), 5, []⟩, ⟨(some 6), .none, (.mov (.t 110)), 6, []⟩]) .ret))))))))))))), [(.t 6)]⟩
theorem k73 : EE.fns 73 = some c73 := by kernel_rfl
def c74 : CF := ⟨22, (.seq (.reg false [⟨(some 2), .none, (.mov (.c (.slice .none 0 0))), 0, []⟩]) (.seq (.reg false [⟨(some 5), .none, (.mov (.t 0)), 0, []⟩, ⟨(some 6), .none, (.lenS (.t 5)), 1, []⟩, ⟨(some 7), .none, (.makeS 1 8 [(.int .i64 0)] (.t 6) (.t 6)), 2, []⟩, ⟨(some 3), .none, (.mov (.t 7)), 3, []⟩]) (.seq (.seq (.reg false [⟨(some 4), .none, (.mov (.c (.int .i64 0))), 0, []⟩]) (.block 0 (.loop (.seq (.seq (.reg false [⟨(some 8), .none, (.mov (.t 4)), 0, []⟩, ⟨(some 9), .none, (.mov (.t 0)), 1, []⟩, ⟨(some 10), .none, (.lenS (.t 9)), 2, []⟩, ⟨(some 11), .none, (.bin .lss (.t 8) (.t 10)), 3, []⟩]) (.cond (.t 11) .skip (.exit 0))) (.seq (.block 1 (.reg false [⟨(some 14), .none, (.mov (.t 3)), 0, []⟩, ⟨(some 15), .none, (.mov (.t 4)), 1, []⟩, ⟨(some 16), .none, (.mov (.t 0)), 2, []⟩, ⟨(some 17), .none, (.mov (.t 4)), 3, []⟩, ⟨(some 18), .none, (.iadr 1 (.t 16) (.t 17)), 4, []⟩, ⟨(some 19), .none, (.load 1 false (.t 18)), 5, []⟩, ⟨(some 20), .none, (.iadr 1 (.t 14) (.t 15)), 6, []⟩, ⟨.none, .none, (.store 1 (.t 20) (.t 19)), 7, []⟩])) (.reg false [⟨(some 12), .none, (.mov (.t 4)), 0, []⟩, ⟨(some 13), .none, (.bin .add (.t 12) (.c (.int .i64 1))), 1, []⟩, ⟨(some 4), .none, (.mov (.t 13)), 2, []⟩])))))) (.seq (.reg false [⟨(some 21), .none, (.mov (.t 3)), 0, []⟩, ⟨(some 2), .none, (.mov (.t 21)), 1, []⟩]) .ret)))), [(.t 2)]⟩
theorem k74 : EE.fns 74 = some c74 := by kernel_rfl
def c75 : CF := ⟨14, (.seq (.reg false [⟨(some 1), .none, (.boxV (.t 0)), 0, []⟩, ⟨(some 2), .none, (.newV [(.string ⟨#[]⟩), (.int .i64 0), (.int .i64 0)]), 1, []⟩]) (.seq (.reg false [⟨(some 3), .none, (.newV [(.string ⟨#[]⟩), (.int .i64 0), (.int .i64 0)]), 0, []⟩]) (.seq (.reg false [⟨(some 4), .none, (.fadr 0 (.t 1)), 0, []⟩, ⟨(some 5), .none, (.load 1 false (.t 4)), 1, []⟩, ⟨(some 6), .none, (.fadr 0 (.t 3)), 2, []⟩, ⟨.none, .none, (.store 1 (.t 6) (.t 5)), 3, []⟩]) (.seq (.reg false [⟨(some 7), .none, (.fadr 1 (.t 1)), 0, []⟩, ⟨(some 8), .none, (.load 1 false (.t 7)), 1, []⟩, ⟨(some 9), .none, (.fadr 1 (.t 3)), 2, []⟩, ⟨.none, .none, (.store 1 (.t 9) (.t 8)), 3, []⟩]) (.seq (.reg false [⟨(some 10), .none, (.fadr 2 (.t 1)), 0, []⟩, ⟨(some 11), .none, (.load 1 false (.t 10)), 1, []⟩, ⟨(some 12), .none, (.fadr 2 (.t 3)), 2, []⟩, ⟨.none, .none, (.store 1 (.t 12) (.t 11)), 3, []⟩]) (.seq (.reg false [⟨(some 13), .none, (.load 3 true (.t 3)), 0, []⟩, ⟨.none, .none, (.store 3 (.t 2) (.t 13)), 1, []⟩]) .ret)))))), [(.cell 2 3 true)]⟩
theorem k75 : EE.fns 75 = some c75 := by kernel_rfl
def c76 : CF := ⟨95, (.seq (.reg false [⟨(some 3), .none, (.boxV (.t 0)), 0, []⟩, ⟨(some 6), .none, (.mov (.c (.bool false))), 1, []⟩]) (.seq (.reg false [⟨(some 14), .none, (.mov (.t 1)), 0, []⟩, ⟨(some 15), .none, (.mov (.t 2)), 1, []⟩, ⟨(some 16), .none, (.iadr 3 (.t 14) (.t 15)), 2, []⟩, ⟨(some 17), .none, (.load 3 true (.t 16)), 3, []⟩, ⟨(some 7), .none, (.newV [(.string ⟨#[]⟩), (.int .i64 0), (.int .i64 0)]), 4, []⟩, ⟨.none, .none, (.store 3 (.t 7) (.t 17)), 5, []⟩]) (.seq (.seq (.reg false [⟨(some 18), .none, (.fadr 1 (.t 7)), 0, []⟩, ⟨(some 19), .none, (.load 1 false (.t 18)), 1, []⟩, ⟨(some 20), .none, (.bin .eql (.t 19) (.c (.int .i64 (-1)))), 2, []⟩]) (.cond (.t 20) (.seq (.reg false [⟨(some 21), .none, (.fadr 2 (.t 7)), 0, []⟩, ⟨(some 22), .none, (.load 1 false (.t 21)), 1, []⟩, ⟨(some 23), .none, (.bin .eql (.t 22) (.c (.int .i64 (-1)))), 2, []⟩, ⟨(some 24), .none, (.mov (.t 23)), 3, []⟩, ⟨(some 25), (.some (24, true)), (.fadr 0 (.t 3)), 4, []⟩, ⟨(some 26), (.some (24, true)), (.load 1 false (.t 25)), 5, []⟩, ⟨(some 27), (.some (24, true)), (.fadr 0 (.t 7)), 6, []⟩, ⟨(some 28), (.some (24, true)), (.load 1 false (.t 27)), 7, []⟩, ⟨(some 29), (.some (24, true)), (.call 111 [(.t 26), (.t 28)]), 8, []⟩, ⟨(some 30), .none, (.pick (.t 24) (.t 29) (.c (.bool false))), 9, []⟩, ⟨(some 6), .none, (.mov (.t 30)), 10, []⟩]) .ret) .skip)) (.seq (.seq (.reg false [⟨(some 31), .none, (.fadr 1 (.t 7)), 0, []⟩, ⟨(some 32), .none, (.load 1 false (.t 31)), 1, []⟩, ⟨(some 33), .none, (.mov (.t 2)), 2, []⟩, ⟨(some 34), .none, (.bin .sub (.t 33) (.c (.int .i64 1))), 3, []⟩, ⟨(some 35), .none, (.call 112 [(.t 32), (.c (.int .i64 0)), (.t 34)]), 4, []⟩, ⟨(some 36), .none, (.un .not (.t 35)), 5, []⟩]) (.cond (.t 36) (.seq (.reg false [⟨(some 6), .none, (.mov (.c (.bool false))), 0, []⟩]) .ret) .skip)) (.seq (.reg false [⟨(some 37), .none, (.mov (.t 1)), 0, []⟩, ⟨(some 38), .none, (.fadr 1 (.t 7)), 1, []⟩, ⟨(some 39), .none, (.load 1 false (.t 38)), 2, []⟩, ⟨(some 40), .none, (.iadr 3 (.t 37) (.t 39)), 3, []⟩, ⟨(some 41), .none, (.fadr 0 (.t 40)), 4, []⟩, ⟨(some 42), .none, (.load 1 false (.t 41)), 5, []⟩, ⟨(some 8), .none, (.mov (.t 42)), 6, []⟩]) (.seq (.seq (.reg false [⟨(some 44), .none, (.mov (.t 8)), 0, []⟩, ⟨(some 45), .none, (.call 81 [(.t 44)]), 1, []⟩, ⟨(some 43), .none, (.mov (.t 45)), 2, []⟩, ⟨(some 46), .none, (.ext (.t 43) 0), 3, []⟩, ⟨(some 47), .none, (.ext (.t 43) 1), 4, []⟩, ⟨(some 9), .none, (.mov (.t 46)), 5, []⟩, ⟨(some 10), .none, (.mov (.t 47)), 6, []⟩]) (.seq (.reg false [⟨(some 48), .none, (.mov (.t 10)), 0, []⟩]) (.cond (.t 48) (.seq (.reg false [⟨(some 49), .none, (.fadr 2 (.t 7)), 0, []⟩, ⟨(some 50), .none, (.load 1 false (.t 49)), 1, []⟩, ⟨(some 51), .none, (.bin .eql (.t 50) (.c (.int .i64 (-1)))), 2, []⟩, ⟨(some 52), .none, (.mov (.t 51)), 3, []⟩, ⟨(some 53), (.some (52, true)), (.mov (.t 9)), 4, []⟩, ⟨(some 54), (.some (52, true)), (.fadr 0 (.t 7)), 5, []⟩, ⟨(some 55), (.some (52, true)), (.load 1 false (.t 54)), 6, []⟩, ⟨(some 56), (.some (52, true)), (.call 111 [(.t 53), (.t 55)]), 7, []⟩, ⟨(some 57), .none, (.pick (.t 52) (.t 56) (.c (.bool false))), 8, []⟩, ⟨(some 6), .none, (.mov (.t 57)), 9, []⟩]) .ret) .skip))) (.seq (.reg false [⟨(some 59), .none, (.mov (.t 8)), 0, []⟩, ⟨(some 60), .none, (.call 83 [(.t 59)]), 1, []⟩, ⟨(some 58), .none, (.mov (.t 60)), 2, []⟩, ⟨(some 61), .none, (.ext (.t 58) 0), 3, []⟩, ⟨(some 62), .none, (.ext (.t 58) 1), 4, []⟩, ⟨(some 63), .none, (.ext (.t 58) 2), 5, []⟩, ⟨(some 11), .none, (.mov (.t 61)), 6, []⟩, ⟨(some 12), .none, (.mov (.t 62)), 7, []⟩, ⟨(some 13), .none, (.mov (.t 63)), 8, []⟩]) (.seq (.seq (.reg false [⟨(some 64), .none, (.mov (.t 13)), 0, []⟩, ⟨(some 65), .none, (.un .not (.t 64)), 1, []⟩, ⟨(some 66), .none, (.mov (.t 65)), 2, []⟩, ⟨(some 67), (.some (66, false)), (.mov (.t 12)), 3, []⟩, ⟨(some 68), (.some (66, false)), (.fadr 0 (.t 7)), 4, []⟩, ⟨(some 69), (.some (66, false)), (.load 1 false (.t 68)), 5, []⟩, ⟨(some 70), (.some (66, false)), (.bin .neq (.t 67) (.t 69)), 6, []⟩, ⟨(some 71), .none, (.pick (.t 66) (.c (.bool true)) (.t 70)), 7, []⟩]) (.cond (.t 71) (.seq (.reg false [⟨(some 6), .none, (.mov (.c (.bool false))), 0, []⟩]) .ret) .skip)) (.seq (.seq (.reg false [⟨(some 72), .none, (.fadr 2 (.t 7)), 0, []⟩, ⟨(some 73), .none, (.load 1 false (.t 72)), 1, []⟩, ⟨(some 74), .none, (.bin .eql (.t 73) (.c (.int .i64 (-2)))), 2, []⟩]) (.cond (.t 74) (.seq (.reg false [⟨(some 75), .none, (.fadr 1 (.t 3)), 0, []⟩, ⟨(some 76), .none, (.load 1 false (.t 75)), 1, []⟩, ⟨(some 77), .none, (.mov (.t 11)), 2, []⟩, ⟨(some 78), .none, (.call 113 [(.t 76), (.t 77)]), 3, []⟩, ⟨(some 6), .none, (.mov (.t 78)), 4, []⟩]) .ret) .skip)) (.seq (.reg true [⟨(some 79), .none, (.fadr 2 (.t 7)), 0, []⟩, ⟨(some 80), .none, (.load 1 false (.t 79)), 1, [0]⟩, ⟨(some 81), .none, (.mov (.t 2)), 2, []⟩, ⟨(some 82), .none, (.bin .sub (.t 81) (.c (.int .i64 1))), 3, [2]⟩, ⟨(some 83), .none, (.call 112 [(.t 80), (.c (.int .i64 0)), (.t 82)]), 4, [1, 0, 3, 2]⟩, ⟨(some 84), .none, (.mov (.t 83)), 5, [4, 1, 0, 3, 2]⟩, ⟨(some 85), (.some (84, true)), (.mov (.t 1)), 6, [5, 4, 1, 0, 3, 2]⟩, ⟨(some 86), (.some (84, true)), (.fadr 2 (.t 7)), 7, [5, 4, 1, 0, 3, 2]⟩, ⟨(some 87), (.some (84, true)), (.load 1 false (.t 86)), 8, [7, 5, 4, 1, 0, 3, 2]⟩, ⟨(some 88), (.some (84, true)), (.iadr 3 (.t 85) (.t 87)), 9, [6, 5, 4, 1, 0, 3, 2, 8, 7]⟩, ⟨(some 89), (.some (84, true)), (.fadr 0 (.t 88)), 10, [9, 6, 5, 4, 1, 0, 3, 2, 8, 7]⟩, ⟨(some 90), (.some (84, true)), (.load 1 false (.t 89)), 11, [10, 9, 6, 5, 4, 1, 0, 3, 2, 8, 7]⟩, ⟨(some 91), (.some (84, true)), (.mov (.t 11)), 12, [5, 4, 1, 0, 3, 2]⟩, ⟨(some 92), (.some (84, true)), (.call 114 [(.t 91)]), 13, [12, 5, 4, 1, 0, 3, 2]⟩, ⟨(some 93), (.some (84, true)), (.bin .eql (.t 90) (.t 92)), 14, [11, 10, 9, 6, 5, 4, 1, 0, 3, 2, 8, 7, 13, 12]⟩, ⟨(some 94), .none, (.pick (.t 84) (.t 93) (.c (.bool false))), 15, [5, 4, 1, 0, 3, 2, 14, 11, 10, 9, 6, 8, 7, 13, 12]⟩, ⟨(some 6), .none, (.mov (.t 94)), 16, [15, 5, 4, 1, 0, 3, 2, 14, 11, 10, 9, 6, 8, 7, 13, 12]⟩]) .ret)))))))))), [(.t 6)]⟩
theorem k76 : EE.fns 76 = some c76 := by kernel_rfl
def c77 : CF := ⟨53, (.seq (.reg false [⟨(some 1), .none, (.boxV (.t 0)), 0, []⟩, ⟨(some 2), .none, (.mov (.c (.bool false))), 1, []⟩]) (.seq (.seq (.reg false [⟨(some 7), .none, (.fadr 0 (.t 1)), 0, []⟩, ⟨(some 8), .none, (.load 1 false (.t 7)), 1, []⟩, ⟨(some 9), .none, (.lenS (.t 8)), 2, []⟩, ⟨(some 10), .none, (.mov (.c (.int .i64 0))), 3, []⟩]) (.block 0 (.loop (.seq (.reg false [⟨(some 11), .none, (.bin .lss (.t 10) (.t 9)), 0, []⟩]) (.seq (.cond (.t 11) .skip (.exit 0)) (.seq (.block 1 (.seq (.reg false [⟨(some 12), .none, (.mov (.t 10)), 0, []⟩, ⟨(some 13), .none, (.iadr 1 (.t 8) (.t 10)), 1, []⟩, ⟨(some 14), .none, (.load 1 false (.t 13)), 2, []⟩, ⟨(some 3), .none, (.mov (.t 12)), 3, []⟩, ⟨(some 4), .none, (.mov (.t 14)), 4, []⟩]) (.seq (.reg false [⟨(some 15), .none, (.mov (.t 4)), 0, []⟩, ⟨(some 16), .none, (.call 96 [(.t 15)]), 1, []⟩, ⟨(some 17), .none, (.un .not (.t 16)), 2, []⟩, ⟨(some 18), .none, (.mov (.t 17)), 3, []⟩, ⟨(some 19), (.some (18, false)), (.fadr 0 (.t 1)), 4, []⟩, ⟨(some 20), (.some (18, false)), (.load 1 false (.t 19)), 5, []⟩, ⟨(some 21), (.some (18, false)), (.mov (.t 3)), 6, []⟩, ⟨(some 22), (.some (18, false)), (.slc 1 (.t 20) .none (.some (.t 21))), 7, []⟩, ⟨(some 23), (.some (18, false)), (.mov (.t 4)), 8, []⟩, ⟨(some 24), (.some (18, false)), (.call 111 [(.t 22), (.t 23)]), 9, []⟩, ⟨(some 25), .none, (.pick (.t 18) (.c (.bool true)) (.t 24)), 10, []⟩]) (.cond (.t 25) (.seq (.reg false [⟨(some 2), .none, (.mov (.c (.bool false))), 0, []⟩]) .ret) .skip)))) (.reg false [⟨(some 26), .none, (.bin .add (.t 10) (.c (.int .i64 1))), 0, []⟩, ⟨(some 10), .none, (.mov (.t 26)), 1, []⟩]))))))) (.seq (.seq (.reg false [⟨(some 27), .none, (.fadr 1 (.t 1)), 0, []⟩, ⟨(some 28), .none, (.load 1 false (.t 27)), 1, []⟩, ⟨(some 29), .none, (.lenS (.t 28)), 2, []⟩, ⟨(some 30), .none, (.mov (.c (.int .i64 0))), 3, []⟩]) (.block 2 (.loop (.seq (.reg false [⟨(some 31), .none, (.bin .lss (.t 30) (.t 29)), 0, []⟩]) (.seq (.cond (.t 31) .skip (.exit 2)) (.seq (.block 3 (.seq (.reg false [⟨(some 32), .none, (.iadr 1 (.t 28) (.t 30)), 0, []⟩, ⟨(some 33), .none, (.load 1 false (.t 32)), 1, []⟩, ⟨(some 6), .none, (.mov (.t 33)), 2, []⟩]) (.seq (.reg false [⟨(some 34), .none, (.mov (.t 6)), 0, []⟩, ⟨(some 35), .none, (.call 97 [(.t 34)]), 1, []⟩, ⟨(some 36), .none, (.un .not (.t 35)), 2, []⟩]) (.cond (.t 36) (.seq (.reg false [⟨(some 2), .none, (.mov (.c (.bool false))), 0, []⟩]) .ret) .skip)))) (.reg false [⟨(some 37), .none, (.bin .add (.t 30) (.c (.int .i64 1))), 0, []⟩, ⟨(some 30), .none, (.mov (.t 37)), 1, []⟩]))))))) (.seq (.reg false [⟨(some 38), .none, (.fadr 0 (.t 1)), 0, []⟩, ⟨(some 39), .none, (.load 1 false (.t 38)), 1, []⟩, ⟨(some 40), .none, (.lenS (.t 39)), 2, []⟩, ⟨(some 41), .none, (.bin .leq (.t 40) (.c (.int .i64 60))), 3, []⟩, ⟨(some 42), .none, (.mov (.t 41)), 4, []⟩, ⟨(some 43), (.some (42, true)), (.fadr 1 (.t 1)), 5, []⟩, ⟨(some 44), (.some (42, true)), (.load 1 false (.t 43)), 6, []⟩, ⟨(some 45), (.some (42, true)), (.lenS (.t 44)), 7, []⟩, ⟨(some 46), (.some (42, true)), (.bin .leq (.t 45) (.c (.int .i64 40))), 8, []⟩, ⟨(some 47), .none, (.pick (.t 42) (.t 46) (.c (.bool false))), 9, []⟩, ⟨(some 48), .none, (.mov (.t 47)), 10, []⟩, ⟨(some 49), (.some (48, true)), (.fadr 1 (.t 1)), 11, []⟩, ⟨(some 50), (.some (48, true)), (.load 1 false (.t 49)), 12, []⟩, ⟨(some 51), (.some (48, true)), (.call 115 [(.t 50)]), 13, []⟩, ⟨(some 52), .none, (.pick (.t 48) (.t 51) (.c (.bool false))), 14, []⟩, ⟨(some 2), .none, (.mov (.t 52)), 15, []⟩]) .ret)))), [(.t 2)]⟩
theorem k77 : EE.fns 77 = some c77 := by kernel_rfl
def c78 : CF := ⟨26, (.seq (.reg false [⟨(some 4), .none, (.mov (.c (.bool false))), 0, []⟩]) (.seq (.seq (.reg false [⟨(some 6), .none, (.mov (.t 0)), 0, []⟩, ⟨(some 7), .none, (.lenS (.t 6)), 1, []⟩, ⟨(some 8), .none, (.mov (.t 1)), 2, []⟩, ⟨(some 9), .none, (.lenS (.t 8)), 3, []⟩, ⟨(some 10), .none, (.bin .neq (.t 7) (.t 9)), 4, []⟩]) (.cond (.t 10) (.seq (.reg false [⟨(some 4), .none, (.mov (.c (.bool false))), 0, []⟩]) .ret) .skip)) (.seq (.seq (.reg false [⟨(some 5), .none, (.mov (.c (.int .i64 0))), 0, []⟩]) (.block 0 (.loop (.seq (.seq (.reg false [⟨(some 11), .none, (.mov (.t 5)), 0, []⟩, ⟨(some 12), .none, (.mov (.t 0)), 1, []⟩, ⟨(some 13), .none, (.lenS (.t 12)), 2, []⟩, ⟨(some 14), .none, (.bin .lss (.t 11) (.t 13)), 3, []⟩]) (.cond (.t 14) .skip (.exit 0))) (.seq (.block 1 (.seq (.reg true [⟨(some 17), .none, (.mov (.t 0)), 0, []⟩, ⟨(some 18), .none, (.mov (.t 5)), 1, []⟩, ⟨(some 19), .none, (.iadr 1 (.t 17) (.t 18)), 2, [0, 1]⟩, ⟨(some 20), .none, (.load 1 false (.t 19)), 3, [2, 0, 1]⟩, ⟨(some 21), .none, (.mov (.t 1)), 4, []⟩, ⟨(some 22), .none, (.mov (.t 5)), 5, []⟩, ⟨(some 23), .none, (.iadr 1 (.t 21) (.t 22)), 6, [4, 5]⟩, ⟨(some 24), .none, (.load 1 false (.t 23)), 7, [6, 4, 5]⟩, ⟨(some 25), .none, (.bin .neq (.t 20) (.t 24)), 8, [3, 2, 0, 1, 7, 6, 4, 5]⟩]) (.cond (.t 25) (.seq (.reg false [⟨(some 4), .none, (.mov (.c (.bool false))), 0, []⟩]) .ret) .skip))) (.reg false [⟨(some 15), .none, (.mov (.t 5)), 0, []⟩, ⟨(some 16), .none, (.bin .add (.t 15) (.c (.int .i64 1))), 1, []⟩, ⟨(some 5), .none, (.mov (.t 16)), 2, []⟩])))))) (.seq (.reg false [⟨(some 4), .none, (.mov (.c (.bool true))), 0, []⟩]) .ret)))), [(.t 4)]⟩
theorem k78 : EE.fns 78 = some c78 := by kernel_rfl
def c79 : CF := ⟨20, (.seq (.reg false [⟨(some 2), .none, (.boxV (.t 0)), 0, []⟩, ⟨(some 3), .none, (.boxV (.t 1)), 1, []⟩, ⟨(some 4), .none, (.mov (.c (.bool false))), 2, []⟩]) (.seq (.seq (.reg false [⟨(some 5), .none, (.fadr 0 (.t 2)), 0, []⟩, ⟨(some 6), .none, (.load 1 false (.t 5)), 1, []⟩, ⟨(some 7), .none, (.fadr 0 (.t 3)), 2, []⟩, ⟨(some 8), .none, (.load 1 false (.t 7)), 3, []⟩, ⟨(some 9), .none, (.bin .neq (.t 6) (.t 8)), 4, []⟩]) (.cond (.t 9) (.seq (.reg false [⟨(some 4), .none, (.mov (.c (.bool false))), 0, []⟩]) .ret) .skip)) (.seq (.seq (.reg false [⟨(some 10), .none, (.fadr 1 (.t 2)), 0, []⟩, ⟨(some 11), .none, (.load 1 false (.t 10)), 1, []⟩, ⟨(some 12), .none, (.fadr 1 (.t 3)), 2, []⟩, ⟨(some 13), .none, (.load 1 false (.t 12)), 3, []⟩, ⟨(some 14), .none, (.bin .neq (.t 11) (.t 13)), 4, []⟩]) (.cond (.t 14) (.seq (.reg false [⟨(some 4), .none, (.mov (.c (.bool false))), 0, []⟩]) .ret) .skip)) (.seq (.seq (.reg false [⟨(some 15), .none, (.fadr 2 (.t 2)), 0, []⟩, ⟨(some 16), .none, (.load 1 false (.t 15)), 1, []⟩, ⟨(some 17), .none, (.fadr 2 (.t 3)), 2, []⟩, ⟨(some 18), .none, (.load 1 false (.t 17)), 3, []⟩, ⟨(some 19), .none, (.bin .neq (.t 16) (.t 18)), 4, []⟩]) (.cond (.t 19) (.seq (.reg false [⟨(some 4), .none, (.mov (.c (.bool false))), 0, []⟩]) .ret) .skip)) (.seq (.reg false [⟨(some 4), .none, (.mov (.c (.bool true))), 0, []⟩]) .ret))))), [(.t 4)]⟩
theorem k79 : EE.fns 79 = some c79 := by kernel_rfl
def c89 : CF := ⟨18, (.seq (.reg false [⟨(some 4), .none, (.mov (.c (.bool false))), 0, []⟩]) (.seq (.seq (.reg false [⟨(some 5), .none, (.mov (.c (.int .i64 0))), 0, []⟩]) (.block 0 (.loop (.seq (.seq (.reg false [⟨(some 6), .none, (.mov (.t 5)), 0, []⟩, ⟨(some 7), .none, (.mov (.t 0)), 1, []⟩, ⟨(some 8), .none, (.lenS (.t 7)), 2, []⟩, ⟨(some 9), .none, (.bin .lss (.t 6) (.t 8)), 3, []⟩]) (.cond (.t 9) .skip (.exit 0))) (.seq (.block 1 (.seq (.reg false [⟨(some 12), .none, (.mov (.t 0)), 0, []⟩, ⟨(some 13), .none, (.mov (.t 5)), 1, []⟩, ⟨(some 14), .none, (.iadr 1 (.t 12) (.t 13)), 2, []⟩, ⟨(some 15), .none, (.load 1 false (.t 14)), 3, []⟩, ⟨(some 16), .none, (.mov (.t 1)), 4, []⟩, ⟨(some 17), .none, (.bin .eql (.t 15) (.t 16)), 5, []⟩]) (.cond (.t 17) (.seq (.reg false [⟨(some 4), .none, (.mov (.c (.bool true))), 0, []⟩]) .ret) .skip))) (.reg false [⟨(some 10), .none, (.mov (.t 5)), 0, []⟩, ⟨(some 11), .none, (.bin .add (.t 10) (.c (.int .i64 1))), 1, []⟩, ⟨(some 5), .none, (.mov (.t 11)), 2, []⟩])))))) (.seq (.reg false [⟨(some 4), .none, (.mov (.c (.bool false))), 0, []⟩]) .ret))), [(.t 4)]⟩
theorem k89 : EE.fns 89 = some c89 := by kernel_rfl
def c108 : CF := ⟨20, (.seq (.reg false [⟨(some 2), .none, (.mov (.c (.int .i64 0))), 0, []⟩]) (.seq (.seq (.reg false [⟨(some 5), .none, (.mov (.t 0)), 0, []⟩, ⟨(some 6), .none, (.lenT (.t 5)), 1, []⟩, ⟨(some 7), .none, (.bin .eql (.t 6) (.c (.int .i64 0))), 2, []⟩, ⟨(some 8), .none, (.mov (.t 7)), 3, []⟩, ⟨(some 9), (.some (8, false)), (.mov (.t 0)), 4, []⟩, ⟨(some 10), (.some (8, false)), (.idx (.t 9) (.c (.int .i64 0))), 5, []⟩, ⟨(some 11), (.some (8, false)), (.bin .neq (.t 10) (.c (.int .u8 115))), 6, []⟩, ⟨(some 12), .none, (.pick (.t 8) (.c (.bool true)) (.t 11)), 7, []⟩]) (.cond (.t 12) (.seq (.reg false [⟨(some 2), .none, (.mov (.c (.int .i64 0))), 0, []⟩]) .ret) .skip)) (.seq (.reg false [⟨(some 14), .none, (.mov (.t 0)), 0, []⟩, ⟨(some 15), .none, (.slcS (.t 14) (.some (.c (.int .i64 1))) .none), 1, []⟩, ⟨(some 16), .none, (.call 127 [(.t 15)]), 2, []⟩, ⟨(some 13), .none, (.mov (.t 16)), 3, []⟩, ⟨(some 17), .none, (.ext (.t 13) 0), 4, []⟩, ⟨(some 18), .none, (.ext (.t 13) 1), 5, []⟩, ⟨(some 3), .none, (.mov (.t 17)), 6, []⟩, ⟨(some 4), .none, (.mov (.t 18)), 7, []⟩]) (.seq (.reg false [⟨(some 19), .none, (.mov (.t 3)), 0, []⟩, ⟨(some 2), .none, (.mov (.t 19)), 1, []⟩]) .ret)))), [(.t 2)]⟩
theorem k108 : EE.fns 108 = some c108 := by kernel_rfl
def c109 : CF := ⟨18, (.seq (.reg false [⟨(some 4), .none, (.mov (.c (.bool false))), 0, []⟩]) (.seq (.seq (.reg false [⟨(some 5), .none, (.mov (.c (.int .i64 0))), 0, []⟩]) (.block 0 (.loop (.seq (.seq (.reg false [⟨(some 6), .none, (.mov (.t 5)), 0, []⟩, ⟨(some 7), .none, (.mov (.t 0)), 1, []⟩, ⟨(some 8), .none, (.lenS (.t 7)), 2, []⟩, ⟨(some 9), .none, (.bin .lss (.t 6) (.t 8)), 3, []⟩]) (.cond (.t 9) .skip (.exit 0))) (.seq (.block 1 (.seq (.reg false [⟨(some 12), .none, (.mov (.t 0)), 0, []⟩, ⟨(some 13), .none, (.mov (.t 5)), 1, []⟩, ⟨(some 14), .none, (.iadr 1 (.t 12) (.t 13)), 2, []⟩, ⟨(some 15), .none, (.load 1 false (.t 14)), 3, []⟩, ⟨(some 16), .none, (.mov (.t 1)), 4, []⟩, ⟨(some 17), .none, (.bin .eql (.t 15) (.t 16)), 5, []⟩]) (.cond (.t 17) (.seq (.reg false [⟨(some 4), .none, (.mov (.c (.bool true))), 0, []⟩]) .ret) .skip))) (.reg false [⟨(some 10), .none, (.mov (.t 5)), 0, []⟩, ⟨(some 11), .none, (.bin .add (.t 10) (.c (.int .i64 1))), 1, []⟩, ⟨(some 5), .none, (.mov (.t 11)), 2, []⟩])))))) (.seq (.reg false [⟨(some 4), .none, (.mov (.c (.bool false))), 0, []⟩]) .ret))), [(.t 4)]⟩
theorem k109 : EE.fns 109 = some c109 := by kernel_rfl
def c110 : CF := ⟨21, (.seq (.reg false [⟨(some 2), .none, (.mov (.c (.int .i64 0))), 0, []⟩, ⟨(some 3), .none, (.mov (.c (.bool false))), 1, []⟩]) (.seq (.seq (.reg false [⟨(some 6), .none, (.mov (.t 0)), 0, []⟩, ⟨(some 7), .none, (.call 88 [(.t 6)]), 1, []⟩, ⟨(some 8), .none, (.un .not (.t 7)), 2, []⟩, ⟨(some 9), .none, (.mov (.t 8)), 3, []⟩, ⟨(some 10), (.some (9, false)), (.mov (.t 0)), 4, []⟩, ⟨(some 11), (.some (9, false)), (.idx (.t 10) (.c (.int .i64 0))), 5, []⟩, ⟨(some 12), (.some (9, false)), (.bin .neq (.t 11) (.c (.int .u8 107))), 6, []⟩, ⟨(some 13), .none, (.pick (.t 9) (.c (.bool true)) (.t 12)), 7, []⟩]) (.cond (.t 13) (.seq (.reg false [⟨(some 2), .none, (.mov (.c (.int .i64 0))), 0, []⟩, ⟨(some 3), .none, (.mov (.c (.bool false))), 1, []⟩]) .ret) .skip)) (.seq (.reg false [⟨(some 15), .none, (.mov (.t 0)), 0, []⟩, ⟨(some 16), .none, (.slcS (.t 15) (.some (.c (.int .i64 1))) .none), 1, []⟩, ⟨(some 17), .none, (.call 127 [(.t 16)]), 2, []⟩, ⟨(some 14), .none, (.mov (.t 17)), 3, []⟩, ⟨(some 18), .none, (.ext (.t 14) 0), 4, []⟩, ⟨(some 19), .none, (.ext (.t 14) 1), 5, []⟩, ⟨(some 4), .none, (.mov (.t 18)), 6, []⟩, ⟨(some 5), .none, (.mov (.t 19)), 7, []⟩]) (.seq (.reg false [⟨(some 20), .none, (.mov (.t 4)), 0, []⟩, ⟨(some 2), .none, (.mov (.t 20)), 1, []⟩, ⟨(some 3), .none, (.mov (.c (.bool true))), 2, []⟩]) .ret)))), [(.t 2), (.t 3)]⟩
theorem k110 : EE.fns 110 = some c110 := by kernel_rfl
def c111 : CF := ⟨9, (.seq (.reg false [⟨(some 4), .none, (.mov (.c (.bool false))), 0, []⟩]) (.seq (.reg false [⟨(some 5), .none, (.mov (.t 0)), 0, []⟩, ⟨(some 6), .none, (.mov (.t 1)), 1, []⟩, ⟨(some 7), .none, (.call 129 [(.t 5), (.t 6)]), 2, []⟩, ⟨(some 8), .none, (.bin .geq (.t 7) (.c (.int .i64 0))), 3, []⟩, ⟨(some 4), .none, (.mov (.t 8)), 4, []⟩]) .ret)), [(.t 4)]⟩
theorem k111 : EE.fns 111 = some c111 := by kernel_rfl
def c113 : CF := ⟨9, (.seq (.reg false [⟨(some 4), .none, (.mov (.c (.bool false))), 0, []⟩]) (.seq (.reg false [⟨(some 5), .none, (.mov (.t 0)), 0, []⟩, ⟨(some 6), .none, (.mov (.t 1)), 1, []⟩, ⟨(some 7), .none, (.call 130 [(.t 5), (.t 6)]), 2, []⟩, ⟨(some 8), .none, (.bin .geq (.t 7) (.c (.int .i64 0))), 3, []⟩, ⟨(some 4), .none, (.mov (.t 8)), 4, []⟩]) .ret)), [(.t 4)]⟩
theorem k113 : EE.fns 113 = some c113 := by kernel_rfl
def c114 : CF := ⟨7, (.seq (.reg false [⟨(some 2), .none, (.mov (.c (.string ⟨#[]⟩))), 0, []⟩]) (.seq (.reg false [⟨(some 3), .none, (.mov (.t 0)), 0, []⟩, ⟨(some 4), .none, (.call 99 [(.t 3)]), 1, []⟩, ⟨(some 5), .none, (.bin .add (.c (.string ⟨#[107]⟩)) (.t 4)), 2, []⟩, ⟨(some 6), .none, (.call 98 [(.t 5)]), 3, []⟩, ⟨(some 2), .none, (.mov (.t 6)), 4, []⟩]) .ret)), [(.t 2)]⟩
theorem k114 : EE.fns 114 = some c114 := by kernel_rfl
def c115 : CF := ⟨20, (.seq (.reg false [⟨(some 2), .none, (.mov (.c (.bool false))), 0, []⟩]) (.seq (.seq (.reg false [⟨(some 3), .none, (.mov (.c (.int .i64 1))), 0, []⟩]) (.block 0 (.loop (.seq (.seq (.reg false [⟨(some 4), .none, (.mov (.t 3)), 0, []⟩, ⟨(some 5), .none, (.mov (.t 0)), 1, []⟩, ⟨(some 6), .none, (.lenS (.t 5)), 2, []⟩, ⟨(some 7), .none, (.bin .lss (.t 4) (.t 6)), 3, []⟩]) (.cond (.t 7) .skip (.exit 0))) (.seq (.block 1 (.seq (.reg true [⟨(some 10), .none, (.mov (.t 0)), 0, []⟩, ⟨(some 11), .none, (.mov (.t 3)), 1, []⟩, ⟨(some 12), .none, (.bin .sub (.t 11) (.c (.int .i64 1))), 2, [1]⟩, ⟨(some 13), .none, (.iadr 1 (.t 10) (.t 12)), 3, [0, 2, 1]⟩, ⟨(some 14), .none, (.load 1 false (.t 13)), 4, [3, 0, 2, 1]⟩, ⟨(some 15), .none, (.mov (.t 0)), 5, []⟩, ⟨(some 16), .none, (.mov (.t 3)), 6, []⟩, ⟨(some 17), .none, (.iadr 1 (.t 15) (.t 16)), 7, [5, 6]⟩, ⟨(some 18), .none, (.load 1 false (.t 17)), 8, [7, 5, 6]⟩, ⟨(some 19), .none, (.bin .geq (.t 14) (.t 18)), 9, [4, 3, 0, 2, 1, 8, 7, 5, 6]⟩]) (.cond (.t 19) (.seq (.reg false [⟨(some 2), .none, (.mov (.c (.bool false))), 0, []⟩]) .ret) .skip))) (.reg false [⟨(some 8), .none, (.mov (.t 3)), 0, []⟩, ⟨(some 9), .none, (.bin .add (.t 8) (.c (.int .i64 1))), 1, []⟩, ⟨(some 3), .none, (.mov (.t 9)), 2, []⟩])))))) (.seq (.reg false [⟨(some 2), .none, (.mov (.c (.bool true))), 0, []⟩]) .ret))), [(.t 2)]⟩
theorem k115 : EE.fns 115 = some c115 := by kernel_rfl
def c129 : CF := ⟨19, (.seq (.reg false [⟨(some 4), .none, (.mov (.c (.int .i64 0))), 0, []⟩]) (.seq (.seq (.reg false [⟨(some 6), .none, (.mov (.t 0)), 0, []⟩, ⟨(some 7), .none, (.lenS (.t 6)), 1, []⟩, ⟨(some 8), .none, (.mov (.c (.int .i64 0))), 2, []⟩]) (.block 0 (.loop (.seq (.reg false [⟨(some 9), .none, (.bin .lss (.t 8) (.t 7)), 0, []⟩]) (.seq (.cond (.t 9) .skip (.exit 0)) (.seq (.block 1 (.seq (.reg false [⟨(some 10), .none, (.mov (.t 8)), 0, []⟩, ⟨(some 5), .none, (.mov (.t 10)), 1, []⟩]) (.seq (.reg false [⟨(some 11), .none, (.mov (.t 1)), 0, []⟩, ⟨(some 12), .none, (.mov (.t 0)), 1, []⟩, ⟨(some 13), .none, (.mov (.t 5)), 2, []⟩, ⟨(some 14), .none, (.iadr 1 (.t 12) (.t 13)), 3, []⟩, ⟨(some 15), .none, (.load 1 false (.t 14)), 4, []⟩, ⟨(some 16), .none, (.bin .eql (.t 11) (.t 15)), 5, []⟩]) (.cond (.t 16) (.seq (.reg false [⟨(some 17), .none, (.mov (.t 5)), 0, []⟩, ⟨(some 4), .none, (.mov (.t 17)), 1, []⟩]) .ret) .skip)))) (.reg false [⟨(some 18), .none, (.bin .add (.t 8) (.c (.int .i64 1))), 0, []⟩, ⟨(some 8), .none, (.mov (.t 18)), 1, []⟩]))))))) (.seq (.reg false [⟨(some 4), .none, (.mov (.c (.int .i64 (-1)))), 0, []⟩]) .ret))), [(.t 4)]⟩
theorem k129 : EE.fns 129 = some c129 := by kernel_rfl
def c130 : CF := ⟨19, (.seq (.reg false [⟨(some 4), .none, (.mov (.c (.int .i64 0))), 0, []⟩]) (.seq (.seq (.reg false [⟨(some 6), .none, (.mov (.t 0)), 0, []⟩, ⟨(some 7), .none, (.lenS (.t 6)), 1, []⟩, ⟨(some 8), .none, (.mov (.c (.int .i64 0))), 2, []⟩]) (.block 0 (.loop (.seq (.reg false [⟨(some 9), .none, (.bin .lss (.t 8) (.t 7)), 0, []⟩]) (.seq (.cond (.t 9) .skip (.exit 0)) (.seq (.block 1 (.seq (.reg false [⟨(some 10), .none, (.mov (.t 8)), 0, []⟩, ⟨(some 5), .none, (.mov (.t 10)), 1, []⟩]) (.seq (.reg false [⟨(some 11), .none, (.mov (.t 1)), 0, []⟩, ⟨(some 12), .none, (.mov (.t 0)), 1, []⟩, ⟨(some 13), .none, (.mov (.t 5)), 2, []⟩, ⟨(some 14), .none, (.iadr 1 (.t 12) (.t 13)), 3, []⟩, ⟨(some 15), .none, (.load 1 false (.t 14)), 4, []⟩, ⟨(some 16), .none, (.bin .eql (.t 11) (.t 15)), 5, []⟩]) (.cond (.t 16) (.seq (.reg false [⟨(some 17), .none, (.mov (.t 5)), 0, []⟩, ⟨(some 4), .none, (.mov (.t 17)), 1, []⟩]) .ret) .skip)))) (.reg false [⟨(some 18), .none, (.bin .add (.t 8) (.c (.int .i64 1))), 0, []⟩, ⟨(some 8), .none, (.mov (.t 18)), 1, []⟩]))))))) (.seq (.reg false [⟨(some 4), .none, (.mov (.c (.int .i64 (-1)))), 0, []⟩]) .ret))), [(.t 4)]⟩
theorem k130 : EE.fns 130 = some c130 := by kernel_rfl
def c9 : CF := ⟨69, (.seq (.reg false [⟨(some 1), .none, (.boxV (.t 0)), 0, []⟩, ⟨(some 2), .none, (.mov (.c (.bool false))), 1, []⟩]) (.seq (.reg false [⟨(some 3), .none, (.mov (.c (.int .i64 1048576))), 0, []⟩]) (.seq (.reg false [⟨(some 11), .none, (.load 2 true (.t 1)), 0, []⟩, ⟨(some 12), .none, (.mov (.t 3)), 1, []⟩, ⟨(some 13), .none, (.call 35 [(.t 11), (.t 12)]), 2, []⟩, ⟨(some 3), .none, (.mov (.t 13)), 3, []⟩]) (.seq (.seq (.reg false [⟨(some 14), .none, (.mov (.t 3)), 0, []⟩, ⟨(some 15), .none, (.bin .lss (.t 14) (.c (.int .i64 0))), 1, []⟩]) (.cond (.t 15) (.seq (.reg false [⟨(some 2), .none, (.mov (.c (.bool true))), 0, []⟩]) .ret) .skip)) (.seq (.reg false [⟨(some 16), .none, (.load 2 true (.t 1)), 0, []⟩, ⟨(some 17), .none, (.call 38 [(.t 16)]), 1, []⟩, ⟨(some 18), .none, (.call 43 [(.t 17)]), 2, []⟩, ⟨(some 4), .none, (.mov (.t 18)), 3, []⟩]) (.seq (.reg false [⟨(some 19), .none, (.load 2 true (.t 1)), 0, []⟩, ⟨(some 20), .none, (.call 38 [(.t 19)]), 1, []⟩, ⟨(some 5), .none, (.newV [(.slice .none 0 0), (.slice .none 0 0)]), 2, []⟩, ⟨.none, .none, (.store 2 (.t 5) (.t 20)), 3, []⟩]) (.seq (.reg false [⟨(some 21), .none, (.load 2 true (.t 5)), 0, []⟩, ⟨(some 22), .none, (.call 44 [(.t 21)]), 1, []⟩, ⟨(some 6), .none, (.mov (.t 22)), 2, []⟩]) (.seq (.seq (.reg false [⟨(some 23), .none, (.mov (.t 6)), 0, []⟩, ⟨(some 24), .none, (.mov (.t 4)), 1, []⟩, ⟨(some 25), .none, (.call 42 [(.t 23), (.t 24)]), 2, []⟩, ⟨(some 26), .none, (.un .not (.t 25)), 3, []⟩]) (.cond (.t 26) (.seq (.reg false [⟨(some 2), .none, (.mov (.c (.bool false))), 0, []⟩]) .ret) .skip)) (.seq (.seq (.reg true [⟨(some 27), .none, (.load 2 true (.t 5)), 0, []⟩, ⟨(some 28), .none, (.load 2 true (.t 1)), 1, []⟩, ⟨(some 29), .none, (.call 38 [(.t 28)]), 2, [1]⟩, ⟨(some 30), .none, (.call 41 [(.t 27), (.t 29)]), 3, [0, 2, 1]⟩, ⟨(some 31), .none, (.un .not (.t 30)), 4, [3, 0, 2, 1]⟩]) (.cond (.t 31) (.seq (.reg false [⟨(some 2), .none, (.mov (.c (.bool false))), 0, []⟩]) .ret) .skip)) (.seq (.reg false [⟨(some 7), .none, (.mov (.c (.int .i64 1))), 0, []⟩]) (.seq (.reg false [⟨(some 32), .none, (.load 2 true (.t 5)), 0, []⟩, ⟨(some 33), .none, (.mov (.t 7)), 1, []⟩, ⟨(some 34), .none, (.call 45 [(.t 32), (.t 33)]), 2, []⟩, ⟨(some 7), .none, (.mov (.t 34)), 3, []⟩]) (.seq (.seq (.reg false [⟨(some 35), .none, (.mov (.t 7)), 0, []⟩, ⟨(some 36), .none, (.bin .lss (.t 35) (.c (.int .i64 0))), 1, []⟩, ⟨(some 37), .none, (.mov (.t 36)), 2, []⟩, ⟨(some 38), (.some (37, false)), (.mov (.t 6)), 3, []⟩, ⟨(some 39), (.some (37, false)), (.mov (.t 4)), 4, []⟩, ⟨(some 40), (.some (37, false)), (.call 42 [(.t 38), (.t 39)]), 5, []⟩, ⟨(some 41), (.some (37, false)), (.un .not (.t 40)), 6, []⟩, ⟨(some 42), .none, (.pick (.t 37) (.c (.bool true)) (.t 41)), 7, []⟩]) (.cond (.t 42) (.seq (.reg false [⟨(some 2), .none, (.mov (.c (.bool false))), 0, []⟩]) .ret) .skip)) (.seq (.reg false [⟨(some 8), .none, (.mov (.c (.int .i64 1))), 0, []⟩]) (.seq (.reg false [⟨(some 43), .none, (.mov (.t 6)), 0, []⟩, ⟨(some 44), .none, (.mov (.t 8)), 1, []⟩, ⟨(some 45), .none, (.call 46 [(.t 43), (.t 44)]), 2, []⟩, ⟨(some 8), .none, (.mov (.t 45)), 3, []⟩]) (.seq (.reg false [⟨(some 9), .none, (.mov (.c (.int .i64 1))), 0, []⟩]) (.seq (.reg false [⟨(some 46), .none, (.mov (.t 6)), 0, []⟩, ⟨(some 47), .none, (.mov (.t 9)), 1, []⟩, ⟨(some 48), .none, (.call 47 [(.t 46), (.t 47)]), 2, []⟩, ⟨(some 9), .none, (.mov (.t 48)), 3, []⟩]) (.seq (.seq (.reg false [⟨(some 49), .none, (.mov (.t 9)), 0, []⟩, ⟨(some 50), .none, (.bin .lss (.t 49) (.c (.int .i64 0))), 1, []⟩]) (.cond (.t 50) (.seq (.reg false [⟨(some 2), .none, (.mov (.c (.bool false))), 0, []⟩]) .ret) .skip)) (.seq (.seq (.reg false [⟨(some 51), .none, (.mov (.t 9)), 0, []⟩, ⟨(some 52), .none, (.mov (.t 8)), 1, []⟩, ⟨(some 53), .none, (.bin .neq (.t 51) (.t 52)), 2, []⟩]) (.cond (.t 53) (.seq (.reg false [⟨(some 2), .none, (.mov (.c (.bool false))), 0, []⟩]) .ret) .skip)) (.seq (.reg false [⟨(some 54), .none, (.load 2 true (.t 1)), 0, []⟩, ⟨(some 55), .none, (.call 38 [(.t 54)]), 1, []⟩, ⟨(some 56), .none, (.call 44 [(.t 55)]), 2, []⟩, ⟨(some 10), .none, (.mov (.t 56)), 3, []⟩]) (.seq (.seq (.reg false [⟨(some 57), .none, (.mov (.t 10)), 0, []⟩, ⟨(some 58), .none, (.mov (.t 4)), 1, []⟩, ⟨(some 59), .none, (.call 42 [(.t 57), (.t 58)]), 2, []⟩, ⟨(some 60), .none, (.un .not (.t 59)), 3, []⟩]) (.cond (.t 60) (.seq (.reg false [⟨(some 2), .none, (.mov (.c (.bool false))), 0, []⟩]) .ret) .skip)) (.seq (.reg false [⟨(some 9), .none, (.mov (.c (.int .i64 1))), 0, []⟩]) (.seq (.reg false [⟨(some 61), .none, (.mov (.t 6)), 0, []⟩, ⟨(some 62), .none, (.mov (.t 9)), 1, []⟩, ⟨(some 63), .none, (.call 47 [(.t 61), (.t 62)]), 2, []⟩, ⟨(some 9), .none, (.mov (.t 63)), 3, []⟩]) (.seq (.seq (.reg false [⟨(some 64), .none, (.mov (.t 9)), 0, []⟩, ⟨(some 65), .none, (.bin .lss (.t 64) (.c (.int .i64 0))), 1, []⟩]) (.cond (.t 65) (.seq (.reg false [⟨(some 2), .none, (.mov (.c (.bool false))), 0, []⟩]) .ret) .skip)) (.seq (.seq (.reg false [⟨(some 66), .none, (.mov (.t 9)), 0, []⟩, ⟨(some 67), .none, (.mov (.t 8)), 1, []⟩, ⟨(some 68), .none, (.bin .neq (.t 66) (.t 67)), 2, []⟩]) (.cond (.t 68) (.seq (.reg false [⟨(some 2), .none, (.mov (.c (.bool false))), 0, []⟩]) .ret) .skip)) (.seq (.reg false [⟨(some 2), .none, (.mov (.c (.bool true))), 0, []⟩]) .ret))))))))))))))))))))))))), [(.t 2)]⟩
theorem k9 : EE.fns 9 = some c9 := by kernel_rfl
end Go.Proofs.Ytpdkgbamakileaa.Ev

/- What is known, and steps: searches; is it right. -/
namespace Go.Proofs.Ytpdkgbamakileaa.Ev
set_option linter.all false
open Go
set_option maxRecDepth 4000

abbrev SlI (H : Hp) (v : Value) (l : List Int) : Prop := Sl (En eI) 1 H v l
theorem Sl.int {H : Hp} {v : Value} {l : List Int} (h : SlI H v l) {i : Nat} {a : Int} (hi : l[i]? = some a) : ∃ id p o, H[id]? = some o ∧ o[p]? = some (.int .i64 a) ∧
    ∀ (s : St) (x y : X), exv s.ρ x = some v → exv s.ρ y = some (.int .i64 i) → iadrK s 1 x y = some (.val (.pointer (some ⟨id, p, some o.length⟩)), s) := by
  obtain ⟨id, p, o, ho, hr, hp, hia⟩ := h.elem hi
  unfold En at hr
  exact ⟨id, p, o, ho, by simpa [eI] using getElem?_of_take hr (j := 0) (by omega), hia⟩
theorem notin_take {α : Type} {l : List α} {i : Nat} {x : α} (hi : i < l.length) (h : x ∉ l.take i) (hx : l[i] ≠ x) : x ∉ l.take (i + 1) := by
  rw [List.take_succ_eq_append_getElem hi]
  simp only [List.mem_append, List.mem_singleton, not_or]
  exact ⟨h, fun e => hx e.symm⟩

open Classical in
noncomputable def memS (a : ByteArray) (l : List ByteArray) : Bool := decide (a ∈ l)
theorem memS_t {a : ByteArray} {l : List ByteArray} : memS a l = true ↔ a ∈ l := by unfold memS; simp
theorem memS_f {a : ByteArray} {l : List ByteArray} : memS a l = false ↔ a ∉ l := by unfold memS; simp
theorem f89 {H : Hp} {v : Value} {l : List ByteArray} {a : ByteArray} (hl : SlS H v l) : Scal EE 89 [v, .string a] H (.bool (memS a l)) := by
  refine scal_ok rfl rfl k89 (by simp [c89]) rfl fun m hw => ?_
  have hroom := hl.room
  simp only [go_sem, ↓reduceIte, Nat.reduceEqDiff, reduceCtorEq, Nat.reduceAdd, Nat.reduceLeDiff, Nat.reduceMul, c89]
  refine go_for l.length (fun i s => s.H = H ∧ s.ρ 0 = .val v ∧ s.ρ 1 = .val (.string a) ∧ s.ρ 5 = .val (.int .i64 i) ∧ a ∉ l.take i) (fun s => s.H = H ∧ a ∉ l) (by simp [upd, ini]) ?_ ?_
  · rintro i s hi ⟨hH, h0, h1, h5, hn⟩
    simp only [go_sem, ↓reduceIte, Nat.reduceEqDiff, reduceCtorEq, Nat.reduceAdd, Nat.reduceLeDiff, Nat.reduceMul, h0, h1, h5, hl.len]
    refine brT.intro (fun q => ?_) (fun q => ?_) <;> simp only [go_sem, ↓reduceIte, Nat.reduceEqDiff, reduceCtorEq, Nat.reduceAdd, Nat.reduceLeDiff, Nat.reduceMul, h0, h1, h5]
    · have h2 : i < l.length := by simpa using q
      obtain ⟨id, p, o, ho, hr, hia⟩ := hl.str (List.getElem?_eq_getElem h2)
      simp only [go_sem, ↓reduceIte, Nat.reduceEqDiff, reduceCtorEq, Nat.reduceAdd, Nat.reduceLeDiff, Nat.reduceMul, h0, h1, h5, hia, hH, ho, hr]
      refine brT.intro (fun h4 => ?_) (fun h4 => ?_) <;> simp only [go_sem, ↓reduceIte, Nat.reduceEqDiff, reduceCtorEq, Nat.reduceAdd, Nat.reduceLeDiff, Nat.reduceMul, h0, h1, h5, wrap64 ((i : Int) + 1) (by omega) (by omega)]
      · have : l[i] = a := of_decide_eq_true h4
        rw [memS_t.2 (by rw [← this]; exact List.getElem_mem h2)]
      · exact ⟨h2, by simp, notin_take h2 hn (of_decide_eq_false h4)⟩
    · have h2 : ¬ i < l.length := by simpa using q
      rw [List.take_of_length_le (by omega)] at hn
      exact ⟨hH, hn⟩
  · rintro s ⟨hH, hn⟩
    rw [memS_f.2 hn]
    simp only [go_sem, ↓reduceIte, Nat.reduceEqDiff, reduceCtorEq, Nat.reduceAdd, Nat.reduceLeDiff, Nat.reduceMul, hH]
theorem f109 {H : Hp} {v : Value} {l : List Int} {a : Int} (hl : SlI H v l) : Scal EE 109 [v, .int .i64 a] H (.bool (decide (a ∈ l))) := by
  refine scal_ok rfl rfl k109 (by simp [c109]) rfl fun m hw => ?_
  have hroom := hl.room
  simp only [go_sem, ↓reduceIte, Nat.reduceEqDiff, reduceCtorEq, Nat.reduceAdd, Nat.reduceLeDiff, Nat.reduceMul, c109]
  refine go_for l.length (fun i s => s.H = H ∧ s.ρ 0 = .val v ∧ s.ρ 1 = .val (.int .i64 a) ∧ s.ρ 5 = .val (.int .i64 i) ∧ a ∉ l.take i) (fun s => s.H = H ∧ a ∉ l) (by simp [upd, ini]) ?_ ?_
  · rintro i s hi ⟨hH, h0, h1, h5, hn⟩
    simp only [go_sem, ↓reduceIte, Nat.reduceEqDiff, reduceCtorEq, Nat.reduceAdd, Nat.reduceLeDiff, Nat.reduceMul, h0, h1, h5, hl.len]
    refine brT.intro (fun q => ?_) (fun q => ?_) <;> simp only [go_sem, ↓reduceIte, Nat.reduceEqDiff, reduceCtorEq, Nat.reduceAdd, Nat.reduceLeDiff, Nat.reduceMul, h0, h1, h5]
    · have h2 : i < l.length := by simpa using q
      obtain ⟨id, p, o, ho, hr, hia⟩ := hl.int (List.getElem?_eq_getElem h2)
      simp only [go_sem, ↓reduceIte, Nat.reduceEqDiff, reduceCtorEq, Nat.reduceAdd, Nat.reduceLeDiff, Nat.reduceMul, h0, h1, h5, hia, hH, ho, hr]
      refine brT.intro (fun h4 => ?_) (fun h4 => ?_) <;> simp only [go_sem, ↓reduceIte, Nat.reduceEqDiff, reduceCtorEq, Nat.reduceAdd, Nat.reduceLeDiff, Nat.reduceMul, h0, h1, h5, wrap64 ((i : Int) + 1) (by omega) (by omega)]
      · have : l[i] = a := of_decide_eq_true h4
        simp [← this]
      · exact ⟨h2, by simp, notin_take h2 hn (of_decide_eq_false h4)⟩
    · have h2 : ¬ i < l.length := by simpa using q
      rw [List.take_of_length_le (by omega)] at hn
      exact ⟨hH, hn⟩
  · rintro s ⟨hH, hn⟩
    simp only [go_sem, ↓reduceIte, Nat.reduceEqDiff, reduceCtorEq, Nat.reduceAdd, Nat.reduceLeDiff, Nat.reduceMul, hH, hn]
theorem f129 {H : Hp} {v : Value} {l : List ByteArray} {a : ByteArray} (hl : SlS H v l) : ScalP EE 129 [v, .string a] H fun r => ∃ n : Int, r = .int .i64 n ∧ (0 ≤ n ↔ a ∈ l) := by
  refine scalP_ok rfl rfl k129 (by simp [c129]) fun m hw => ?_
  have hroom := hl.room
  simp only [go_sem, ↓reduceIte, Nat.reduceEqDiff, reduceCtorEq, Nat.reduceAdd, Nat.reduceLeDiff, Nat.reduceMul, c129, hl.len]
  refine go_for l.length (fun i s => s.H = H ∧ s.ρ 0 = .val v ∧ s.ρ 1 = .val (.string a) ∧ s.ρ 7 = .val (.int .i64 l.length) ∧ s.ρ 8 = .val (.int .i64 i) ∧ a ∉ l.take i) (fun s => s.H = H ∧ a ∉ l) (by simp [upd, ini]) ?_ ?_
  · rintro i s hi ⟨hH, h0, h1, h7, h8, hn⟩
    simp only [go_sem, ↓reduceIte, Nat.reduceEqDiff, reduceCtorEq, Nat.reduceAdd, Nat.reduceLeDiff, Nat.reduceMul, h0, h1, h7, h8]
    refine brT.intro (fun q => ?_) (fun q => ?_) <;> simp only [go_sem, ↓reduceIte, Nat.reduceEqDiff, reduceCtorEq, Nat.reduceAdd, Nat.reduceLeDiff, Nat.reduceMul, h0, h1, h7, h8]
    · have h2 : i < l.length := by simpa using q
      obtain ⟨id, p, o, ho, hr, hia⟩ := hl.str (List.getElem?_eq_getElem h2)
      simp only [go_sem, ↓reduceIte, Nat.reduceEqDiff, reduceCtorEq, Nat.reduceAdd, Nat.reduceLeDiff, Nat.reduceMul, h0, h1, h7, h8, hia, hH, ho, hr]
      refine brT.intro (fun h4 => ?_) (fun h4 => ?_) <;> simp only [go_sem, ↓reduceIte, Nat.reduceEqDiff, reduceCtorEq, Nat.reduceAdd, Nat.reduceLeDiff, Nat.reduceMul, h0, h1, h7, h8, wrap64 ((i : Int) + 1) (by omega) (by omega)]
      · have : a = l[i] := of_decide_eq_true h4
        exact ⟨_, rfl, fun _ => by rw [this]; exact List.getElem_mem h2, fun _ => by omega⟩
      · exact ⟨h2, by simp, notin_take h2 hn (fun e => of_decide_eq_false h4 e.symm)⟩
    · have h2 : ¬ i < l.length := by simpa using q
      rw [List.take_of_length_le (by omega)] at hn
      exact ⟨hH, hn⟩
  · rintro s ⟨hH, hn⟩
    simp only [go_sem, ↓reduceIte, Nat.reduceEqDiff, reduceCtorEq, Nat.reduceAdd, Nat.reduceLeDiff, Nat.reduceMul, hH]
    exact ⟨_, rfl, fun h => by omega, fun h => absurd h hn⟩
theorem f130 {H : Hp} {v : Value} {l : List Int} {a : Int} (hl : SlI H v l) : ScalP EE 130 [v, .int .i64 a] H fun r => ∃ n : Int, r = .int .i64 n ∧ (0 ≤ n ↔ a ∈ l) := by
  refine scalP_ok rfl rfl k130 (by simp [c130]) fun m hw => ?_
  have hroom := hl.room
  simp only [go_sem, ↓reduceIte, Nat.reduceEqDiff, reduceCtorEq, Nat.reduceAdd, Nat.reduceLeDiff, Nat.reduceMul, c130, hl.len]
  refine go_for l.length (fun i s => s.H = H ∧ s.ρ 0 = .val v ∧ s.ρ 1 = .val (.int .i64 a) ∧ s.ρ 7 = .val (.int .i64 l.length) ∧ s.ρ 8 = .val (.int .i64 i) ∧ a ∉ l.take i) (fun s => s.H = H ∧ a ∉ l) (by simp [upd, ini]) ?_ ?_
  · rintro i s hi ⟨hH, h0, h1, h7, h8, hn⟩
    simp only [go_sem, ↓reduceIte, Nat.reduceEqDiff, reduceCtorEq, Nat.reduceAdd, Nat.reduceLeDiff, Nat.reduceMul, h0, h1, h7, h8]
    refine brT.intro (fun q => ?_) (fun q => ?_) <;> simp only [go_sem, ↓reduceIte, Nat.reduceEqDiff, reduceCtorEq, Nat.reduceAdd, Nat.reduceLeDiff, Nat.reduceMul, h0, h1, h7, h8]
    · have h2 : i < l.length := by simpa using q
      obtain ⟨id, p, o, ho, hr, hia⟩ := hl.int (List.getElem?_eq_getElem h2)
      simp only [go_sem, ↓reduceIte, Nat.reduceEqDiff, reduceCtorEq, Nat.reduceAdd, Nat.reduceLeDiff, Nat.reduceMul, h0, h1, h7, h8, hia, hH, ho, hr]
      refine brT.intro (fun h4 => ?_) (fun h4 => ?_) <;> simp only [go_sem, ↓reduceIte, Nat.reduceEqDiff, reduceCtorEq, Nat.reduceAdd, Nat.reduceLeDiff, Nat.reduceMul, h0, h1, h7, h8, wrap64 ((i : Int) + 1) (by omega) (by omega)]
      · have : a = l[i] := of_decide_eq_true h4
        exact ⟨_, rfl, fun _ => by rw [this]; exact List.getElem_mem h2, fun _ => by omega⟩
      · exact ⟨h2, by simp, notin_take h2 hn (fun e => of_decide_eq_false h4 e.symm)⟩
    · have h2 : ¬ i < l.length := by simpa using q
      rw [List.take_of_length_le (by omega)] at hn
      exact ⟨hH, hn⟩
  · rintro s ⟨hH, hn⟩
    simp only [go_sem, ↓reduceIte, Nat.reduceEqDiff, reduceCtorEq, Nat.reduceAdd, Nat.reduceLeDiff, Nat.reduceMul, hH]
    exact ⟨_, rfl, fun h => by omega, fun h => absurd h hn⟩
theorem geq_mem {n : Int} {p : Prop} [Decidable p] (h : 0 ≤ n ↔ p) : decide (n ≥ 0) = decide p := by
  rw [Bool.eq_iff_iff]
  simp only [decide_eq_true_eq]
  exact h
theorem f111 {H : Hp} {v : Value} {l : List ByteArray} {a : ByteArray} (hl : SlS H v l) : Scal EE 111 [v, .string a] H (.bool (memS a l)) := by
  refine scal_ok rfl rfl k111 (by simp [c111]) rfl fun m hw => ?_
  simp only [go_sem, ↓reduceIte, Nat.reduceEqDiff, reduceCtorEq, Nat.reduceAdd, Nat.reduceLeDiff, Nat.reduceMul, c111]
  refine callT_to (fun m' h => f129 (a := a) hl m' h) rfl hw fun r H' ⟨⟨n, e, hn⟩, e2⟩ => ?_
  subst e; subst e2
  have e3 : decide (n ≥ 0) = memS a l := by
    rw [Bool.eq_iff_iff, memS_t, decide_eq_true_eq]
    exact hn
  simp only [go_sem, ↓reduceIte, Nat.reduceEqDiff, reduceCtorEq, Nat.reduceAdd, Nat.reduceLeDiff, Nat.reduceMul, e3]
theorem f113 {H : Hp} {v : Value} {l : List Int} {a : Int} (hl : SlI H v l) : Scal EE 113 [v, .int .i64 a] H (.bool (decide (a ∈ l))) := by
  refine scal_ok rfl rfl k113 (by simp [c113]) rfl fun m hw => ?_
  simp only [go_sem, ↓reduceIte, Nat.reduceEqDiff, reduceCtorEq, Nat.reduceAdd, Nat.reduceLeDiff, Nat.reduceMul, c113]
  refine callT_to (fun m' h => f130 (a := a) hl m' h) rfl hw fun r H' ⟨⟨n, e, hn⟩, e2⟩ => ?_
  subst e; subst e2
  simp only [go_sem, ↓reduceIte, Nat.reduceEqDiff, reduceCtorEq, Nat.reduceAdd, Nat.reduceLeDiff, Nat.reduceMul, geq_mem hn]

def NbrLt (l : List Int) : Prop := ∀ i, i + 1 < l.length → ∀ a b, l[i]? = some a → l[i + 1]? = some b → a < b
open Classical in
noncomputable def nbrB (l : List Int) : Bool := decide (NbrLt l)
theorem nbr_yes {l : List Int} (h : NbrLt l) : nbrB l = true := by unfold nbrB; simp [h]
theorem nbr_no {l : List Int} (h : ¬ NbrLt l) : nbrB l = false := by unfold nbrB; simp [h]
theorem f115 {H : Hp} {v : Value} {l : List Int} (hl : SlI H v l) : Scal EE 115 [v] H (.bool (nbrB l)) := by
  refine scal_ok rfl rfl k115 (by simp [c115]) rfl fun m hw => ?_
  have hroom := hl.room
  simp only [go_sem, ↓reduceIte, Nat.reduceEqDiff, reduceCtorEq, Nat.reduceAdd, Nat.reduceLeDiff, Nat.reduceMul, c115]
  refine go_for l.length (fun i s => s.H = H ∧ s.ρ 0 = .val v ∧ s.ρ 3 = .val (.int .i64 ((i : Int) + 1)) ∧ ∀ j, j < i → ∀ a b, l[j]? = some a → l[j + 1]? = some b → a < b) (fun s => s.H = H ∧ NbrLt l) (by simp [upd, ini]) ?_ ?_
  · rintro i s hi ⟨hH, h0, h3, hn⟩
    simp only [go_sem, ↓reduceIte, Nat.reduceEqDiff, reduceCtorEq, Nat.reduceAdd, Nat.reduceLeDiff, Nat.reduceMul, h0, h3, hl.len]
    refine brT.intro (fun q => ?_) (fun q => ?_)
    · have h2 : i + 1 < l.length := by have := of_decide_eq_true q; omega
      obtain ⟨id, p, o, ho, hr, hia⟩ := hl.int (List.getElem?_eq_getElem (show i < l.length by omega))
      obtain ⟨id2, p2, o2, ho2, hr2, hia2⟩ := hl.int (List.getElem?_eq_getElem h2)
      have e1 : ((i + 1 : Nat) : Int) = (i : Int) + 1 := by omega
      rw [e1] at hia2
      have w0 : IntKind.i64.wrap ((i : Int) + 1 - 1) = (i : Int) := by rw [wrap64 _ (by omega) (by omega)]; omega
      simp only [go_sem, ↓reduceIte, Nat.reduceEqDiff, reduceCtorEq, Nat.reduceAdd, Nat.reduceLeDiff, Nat.reduceMul]
      refine go_draw ?_
      simp only [go_sem, ↓reduceIte, Nat.reduceEqDiff, reduceCtorEq, Nat.reduceAdd, Nat.reduceLeDiff, Nat.reduceMul, h0, h3, w0, hia, hia2, hH, ho, hr, ho2, hr2]
      refine ⟨by rfl, ?_⟩
      refine brT.intro (fun h4 => ?_) (fun h4 => ?_) <;> simp only [go_sem, ↓reduceIte, Nat.reduceEqDiff, reduceCtorEq, Nat.reduceAdd, Nat.reduceLeDiff, Nat.reduceMul, h0, h3, wrap64 ((i : Int) + 1 + 1) (by omega) (by omega)]
      · have h5 := of_decide_eq_true h4
        rw [nbr_no (fun h => by have := h i h2 _ _ (List.getElem?_eq_getElem (show i < l.length by omega)) (List.getElem?_eq_getElem h2); omega)]
      · have h5 := of_decide_eq_false h4
        refine ⟨by omega, by simp, fun j hj a b ha hb => ?_⟩
        by_cases e : j = i
        · subst e
          rw [List.getElem?_eq_getElem (by omega)] at ha hb
          cases ha; cases hb
          omega
        · exact hn j (by omega) a b ha hb
    · simp only [go_sem, ↓reduceIte, Nat.reduceEqDiff, reduceCtorEq, Nat.reduceAdd, Nat.reduceLeDiff, Nat.reduceMul]
      exact ⟨hH, fun j hj => hn j (by have := of_decide_eq_false q; omega)⟩
  · rintro s ⟨hH, hn⟩
    rw [nbr_yes hn]
    simp only [go_sem, ↓reduceIte, Nat.reduceEqDiff, reduceCtorEq, Nat.reduceAdd, Nat.reduceLeDiff, Nat.reduceMul, hH]

/-- Is what is known right? -/
def KnOk (kt : List ByteArray) (kk : List Int) : Prop := kt.length ≤ 60 ∧ kk.length ≤ 40 ∧ (∀ i, i < kt.length → ∀ a, kt[i]? = some a → tOk a = true ∧ a ∉ kt.take i) ∧ (∀ x ∈ kk, isKey x = true) ∧ NbrLt kk
open Classical in
noncomputable def knB (kt : List ByteArray) (kk : List Int) : Bool := decide (KnOk kt kk)
theorem kn_t {kt : List ByteArray} {kk : List Int} : knB kt kk = true ↔ KnOk kt kk := by unfold knB; simp
theorem kn_no {kt : List ByteArray} {kk : List Int} (h : ¬ KnOk kt kk) : knB kt kk = false := by unfold knB; simp [h]

theorem f77 {H : Hp} {vt vk : Value} {kt : List ByteArray} {kk : List Int} (ht : SlS H vt kt) (hk : SlI H vk kk) (hz : ∀ x ∈ kt, x.size ≤ 4611686018427387904) : Scal EE 77 [.agg #[vt, vk]] H (.bool (knB kt kk)) := by
  refine scal_ok rfl rfl k77 (by simp [c77]) rfl fun m hw => ?_
  have hr1 := ht.room
  have hr2 := hk.room
  simp only [go_sem, ↓reduceIte, Nat.reduceEqDiff, reduceCtorEq, Nat.reduceAdd, Nat.reduceLeDiff, Nat.reduceMul, c77, ht.vc, hk.vc, ht.len]
  refine go_for kt.length (fun i s => s.H = H ∧ s.ρ 1 = .bx 0 [vt, vk] ∧ s.ρ 8 = .val vt ∧ s.ρ 9 = .val (.int .i64 kt.length) ∧ s.ρ 10 = .val (.int .i64 i) ∧ ∀ j, j < i → ∀ a, kt[j]? = some a → tOk a = true ∧ a ∉ kt.take j)
    (fun s => s.H = H ∧ s.ρ 1 = .bx 0 [vt, vk] ∧ ∀ i, i < kt.length → ∀ a, kt[i]? = some a → tOk a = true ∧ a ∉ kt.take i) (by simp [upd, ini]) ?_ ?_
  · rintro i s hi ⟨hH, k1, k8, k9, k10, hn⟩
    simp only [go_sem, ↓reduceIte, Nat.reduceEqDiff, reduceCtorEq, Nat.reduceAdd, Nat.reduceLeDiff, Nat.reduceMul, k1, k8, k9, k10]
    refine brT.intro (fun q => ?_) (fun q => ?_) <;> simp only [go_sem, ↓reduceIte, Nat.reduceEqDiff, reduceCtorEq, Nat.reduceAdd, Nat.reduceLeDiff, Nat.reduceMul, k1, k8, k9, k10]
    · have hil : i < kt.length := by have := of_decide_eq_true q; omega
      obtain ⟨id, p, o, ho, hr, hia⟩ := ht.str (List.getElem?_eq_getElem hil)
      have a96 := fun {m draw t d ts Q} => callT_at (m := m) (draw := draw) (s := t) (d := d) (ts := ts) (Q := Q) (f96 (H := H) (s := kt[i]) (hz _ (List.getElem_mem hil)))
      obtain ⟨v', hv', hsl⟩ := ht.take (i := i) (by omega)
      have a111 := fun {m draw t d ts Q} => callT_at (m := m) (draw := draw) (s := t) (d := d) (ts := ts) (Q := Q) (f111 (a := kt[i]) hv')
      have no : ¬ (tOk kt[i] = true ∧ kt[i] ∉ kt.take i) → knB kt kk = false := fun h => kn_no fun h2 => h (h2.2.2.1 i hil _ (List.getElem?_eq_getElem hil))
      simp only [go_sem, ↓reduceIte, Nat.reduceEqDiff, reduceCtorEq, Nat.reduceAdd, Nat.reduceLeDiff, Nat.reduceMul, k1, k8, k9, k10, hia, hH, ho, hr, a96, hw]
      cases q2 : tOk kt[i] <;> simp only [go_sem, ↓reduceIte, Nat.reduceEqDiff, reduceCtorEq, Nat.reduceAdd, Nat.reduceLeDiff, Nat.reduceMul, k1, k8, k9, k10, ht.vc, hsl, a111, hw, hH]
      · rw [no (fun h => by rw [q2] at h; exact absurd h.1 (by decide))]
      · cases q3 : memS kt[i] (kt.take i) <;> simp only [go_sem, ↓reduceIte, Nat.reduceEqDiff, reduceCtorEq, Nat.reduceAdd, Nat.reduceLeDiff, Nat.reduceMul, k1, k8, k9, k10, wrap64 ((i : Int) + 1) (by omega) (by omega)]
        · refine ⟨hil, by simp, fun j hj a ha => ?_⟩
          by_cases e : j = i
          · subst e
            rw [List.getElem?_eq_getElem hil] at ha
            cases ha
            exact ⟨q2, memS_f.1 q3⟩
          · exact hn j (by omega) a ha
        · rw [no (fun h => h.2 (memS_t.1 q3))]
    · exact ⟨hH, fun j hj => hn j (by have := of_decide_eq_false q; omega)⟩
  · rintro s ⟨hH, k1, hall⟩
    simp only [go_sem, ↓reduceIte, Nat.reduceEqDiff, reduceCtorEq, Nat.reduceAdd, Nat.reduceLeDiff, Nat.reduceMul, k1, ht.vc, hk.vc, hk.len]
    refine go_for kk.length (fun i s => s.H = H ∧ s.ρ 1 = .bx 0 [vt, vk] ∧ s.ρ 28 = .val vk ∧ s.ρ 29 = .val (.int .i64 kk.length) ∧ s.ρ 30 = .val (.int .i64 i) ∧ ∀ x ∈ kk.take i, isKey x = true)
      (fun s => s.H = H ∧ s.ρ 1 = .bx 0 [vt, vk] ∧ ∀ x ∈ kk, isKey x = true) ?_ ?_ ?_
    · exact ⟨hH, by simp [upd, k1], by simp [upd], by simp [upd], by simp [upd], by simp⟩
    · rintro i s hi ⟨hH, k1, k28, k29, k30, hn⟩
      simp only [go_sem, ↓reduceIte, Nat.reduceEqDiff, reduceCtorEq, Nat.reduceAdd, Nat.reduceLeDiff, Nat.reduceMul, k1, k28, k29, k30]
      refine brT.intro (fun q => ?_) (fun q => ?_) <;> simp only [go_sem, ↓reduceIte, Nat.reduceEqDiff, reduceCtorEq, Nat.reduceAdd, Nat.reduceLeDiff, Nat.reduceMul, k1, k28, k29, k30]
      · have hil : i < kk.length := by have := of_decide_eq_true q; omega
        obtain ⟨id, p, o, ho, hr, hia⟩ := hk.int (List.getElem?_eq_getElem hil)
        have a97 := fun {m draw t d ts Q} => callT_at (m := m) (draw := draw) (s := t) (d := d) (ts := ts) (Q := Q) (f97 (H := H) (a := kk[i]))
        simp only [go_sem, ↓reduceIte, Nat.reduceEqDiff, reduceCtorEq, Nat.reduceAdd, Nat.reduceLeDiff, Nat.reduceMul, k1, k28, k29, k30, hia, hH, ho, hr, a97, hw]
        refine brT.intro (fun q2 => ?_) (fun q2 => ?_) <;> simp only [go_sem, ↓reduceIte, Nat.reduceEqDiff, reduceCtorEq, Nat.reduceAdd, Nat.reduceLeDiff, Nat.reduceMul, k1, k28, k29, k30, wrap64 ((i : Int) + 1) (by omega) (by omega)]
        · refine ⟨hil, by simp, fun x hx => ?_⟩
          rw [List.take_succ_eq_append_getElem hil] at hx
          rcases List.mem_append.1 hx with h | h
          · exact hn x h
          · rw [List.mem_singleton] at h; subst h; exact q2
        · rw [kn_no (fun h2 => by rw [h2.2.2.2.1 _ (List.getElem_mem hil)] at q2; cases q2)]
      · have : i = kk.length := by have := of_decide_eq_false q; omega
        subst this
        rw [List.take_length] at hn
        exact ⟨hH, hn⟩
    · rintro s ⟨hH, k1, hkey⟩
      have a115 := fun {m draw t d ts Q} => callT_at (m := m) (draw := draw) (s := t) (d := d) (ts := ts) (Q := Q) (f115 hk)
      simp only [go_sem, ↓reduceIte, Nat.reduceEqDiff, reduceCtorEq, Nat.reduceAdd, Nat.reduceLeDiff, Nat.reduceMul, k1, ht.vc, hk.vc, ht.len, hk.len]
      cases q1 : decide ((kt.length : Int) ≤ 60) <;> simp only [go_sem, ↓reduceIte, Nat.reduceEqDiff, reduceCtorEq, Nat.reduceAdd, Nat.reduceLeDiff, Nat.reduceMul, k1, ht.vc, hk.vc, hk.len, q1, hH]
      · rw [kn_no (fun h => by have := of_decide_eq_false q1; have := h.1; omega)]
      have q1' := of_decide_eq_true q1
      cases q2 : decide ((kk.length : Int) ≤ 40) <;> simp only [go_sem, ↓reduceIte, Nat.reduceEqDiff, reduceCtorEq, Nat.reduceAdd, Nat.reduceLeDiff, Nat.reduceMul, k1, ht.vc, hk.vc, hk.len, q2, a115, hw]
      · rw [kn_no (fun h => by have := of_decide_eq_false q2; have := h.2.1; omega)]
      have q2' := of_decide_eq_true q2
      by_cases hr : NbrLt kk
      · rw [nbr_yes hr, kn_t.2 ⟨by omega, by omega, hall, hkey, hr⟩]
      · rw [nbr_no hr, kn_no (fun h => hr h.2.2.2.2)]

theorem f49 {H : Hp} {vt vk : Value} {kt : List ByteArray} {kk : List Int} (ht : SlS H vt kt) (hk : SlI H vk kk) (hz : ∀ x ∈ kt, x.size ≤ 4611686018427387904) : Scal EE 49 [.agg #[vt, vk]] H (.bool (knB kt kk)) := by
  refine scal_ok rfl rfl k49 (by simp [c49]) rfl fun m hw => ?_
  have hr1 := ht.room
  have hr2 := hk.room
  simp only [go_sem, ↓reduceIte, Nat.reduceEqDiff, reduceCtorEq, Nat.reduceAdd, Nat.reduceLeDiff, Nat.reduceMul, c49, ht.vc, hk.vc, ht.len]
  cases q1 : decide ((kt.length : Int) > 60) <;> simp only [go_sem, ↓reduceIte, Nat.reduceEqDiff, reduceCtorEq, Nat.reduceAdd, Nat.reduceLeDiff, Nat.reduceMul, ht.vc, hk.vc, hk.len, q1]
  rotate_left
  · rw [kn_no (fun h => by have := of_decide_eq_true q1; have := h.1; omega)]
  cases q2 : decide ((kk.length : Int) > 40) <;> simp only [go_sem, ↓reduceIte, Nat.reduceEqDiff, reduceCtorEq, Nat.reduceAdd, Nat.reduceLeDiff, Nat.reduceMul, ht.vc, hk.vc, hk.len, q2]
  rotate_left
  · rw [kn_no (fun h => by have := of_decide_eq_true q2; have := h.2.1; omega)]
  have q1' := of_decide_eq_false q1
  have q2' := of_decide_eq_false q2
  refine go_for kt.length (fun i s => s.H = H ∧ s.ρ 1 = .bx 0 [vt, vk] ∧ s.ρ 3 = .val (.int .i64 i) ∧ ∀ j, j < i → ∀ a, kt[j]? = some a → tOk a = true ∧ a ∉ kt.take j)
    (fun s => s.H = H ∧ s.ρ 1 = .bx 0 [vt, vk] ∧ ∀ i, i < kt.length → ∀ a, kt[i]? = some a → tOk a = true ∧ a ∉ kt.take i) (by simp [upd, ini]) ?_ ?_
  · rintro i s hi ⟨hH, k1, k3, hn⟩
    simp only [go_sem, ↓reduceIte, Nat.reduceEqDiff, reduceCtorEq, Nat.reduceAdd, Nat.reduceLeDiff, Nat.reduceMul, k1, k3, ht.vc, ht.len]
    refine brT.intro (fun q => ?_) (fun q => ?_)
    rotate_left
    · simp only [go_sem, ↓reduceIte, Nat.reduceEqDiff, reduceCtorEq, Nat.reduceAdd, Nat.reduceLeDiff, Nat.reduceMul, k1]
      exact ⟨hH, fun j hj => hn j (by have := of_decide_eq_false q; omega)⟩
    have hil : i < kt.length := by have := of_decide_eq_true q; omega
    obtain ⟨id, p, o, ho, hr, hia⟩ := ht.str (List.getElem?_eq_getElem hil)
    have a88 := fun {m draw t d ts Q} => callT_at (m := m) (draw := draw) (s := t) (d := d) (ts := ts) (Q := Q) (f88 (H := H) (s := kt[i]) (hz _ (List.getElem_mem hil)))
    obtain ⟨v', hv', hsl⟩ := ht.take (i := i) (by omega)
    have a89 := fun {m draw t d ts Q} => callT_at (m := m) (draw := draw) (s := t) (d := d) (ts := ts) (Q := Q) (f89 (a := kt[i]) hv')
    have no : ¬ (tOk kt[i] = true ∧ kt[i] ∉ kt.take i) → knB kt kk = false := fun h => kn_no fun h2 => h (h2.2.2.1 i hil _ (List.getElem?_eq_getElem hil))
    simp only [go_sem, ↓reduceIte, Nat.reduceEqDiff, reduceCtorEq, Nat.reduceAdd, Nat.reduceLeDiff, Nat.reduceMul]
    refine go_draw ?_
    simp only [go_sem, ↓reduceIte, Nat.reduceEqDiff, reduceCtorEq, Nat.reduceAdd, Nat.reduceLeDiff, Nat.reduceMul, k1, k3, ht.vc, hia, hH, ho, hr, a88, hw]
    cases q2 : tOk kt[i] <;> simp only [go_sem, ↓reduceIte, Nat.reduceEqDiff, reduceCtorEq, Nat.reduceAdd, Nat.reduceLeDiff, Nat.reduceMul, k1, k3, ht.vc, hsl, a89, hw, hH, hia, ho, hr]
    · refine ⟨by rfl, ?_⟩
      rw [no (fun h => by rw [q2] at h; exact absurd h.1 (by decide))]
    · refine ⟨by rfl, ?_⟩
      cases q3 : memS kt[i] (kt.take i) <;> simp only [go_sem, ↓reduceIte, Nat.reduceEqDiff, reduceCtorEq, Nat.reduceAdd, Nat.reduceLeDiff, Nat.reduceMul, k1, k3, wrap64 ((i : Int) + 1) (by omega) (by omega)]
      · refine ⟨hil, by simp, fun j hj a ha => ?_⟩
        by_cases e : j = i
        · subst e
          rw [List.getElem?_eq_getElem hil] at ha
          cases ha
          exact ⟨q2, memS_f.1 q3⟩
        · exact hn j (by omega) a ha
      · rw [no (fun h => h.2 (memS_t.1 q3))]
  · rintro s ⟨hH, k1, hall⟩
    simp only [go_sem, ↓reduceIte, Nat.reduceEqDiff, reduceCtorEq, Nat.reduceAdd, Nat.reduceLeDiff, Nat.reduceMul, k1]
    refine go_for kk.length (fun i s => s.H = H ∧ s.ρ 1 = .bx 0 [vt, vk] ∧ s.ρ 4 = .val (.int .i64 i) ∧ (∀ x ∈ kk.take i, isKey x = true) ∧ ∀ j, j + 1 < i → ∀ a b, kk[j]? = some a → kk[j + 1]? = some b → a < b)
      (fun s => s.H = H ∧ (∀ x ∈ kk, isKey x = true) ∧ NbrLt kk) ?_ ?_ ?_
    · exact ⟨hH, by simp [upd, k1], by simp [upd], by simp, fun j hj => by omega⟩
    · rintro i s hi ⟨hH, k1, k4, hn, hlt⟩
      simp only [go_sem, ↓reduceIte, Nat.reduceEqDiff, reduceCtorEq, Nat.reduceAdd, Nat.reduceLeDiff, Nat.reduceMul, k1, k4, hk.vc, hk.len]
      refine brT.intro (fun q => ?_) (fun q => ?_)
      rotate_left
      · simp only [go_sem, ↓reduceIte, Nat.reduceEqDiff, reduceCtorEq, Nat.reduceAdd, Nat.reduceLeDiff, Nat.reduceMul, k1]
        have : i = kk.length := by have := of_decide_eq_false q; omega
        subst this
        rw [List.take_length] at hn
        exact ⟨hH, hn, hlt⟩
      have hil : i < kk.length := by have := of_decide_eq_true q; omega
      obtain ⟨id, p, o, ho, hr, hia⟩ := hk.int (List.getElem?_eq_getElem hil)
      have hin : (decide (kk[i] ≥ 1) && decide (kk[i] ≤ 1000000)) = isKey kk[i] := rfl
      simp only [go_sem, ↓reduceIte, Nat.reduceEqDiff, reduceCtorEq, Nat.reduceAdd, Nat.reduceLeDiff, Nat.reduceMul]
      refine go_draw ?_
      simp only [go_sem, ↓reduceIte, Nat.reduceEqDiff, reduceCtorEq, Nat.reduceAdd, Nat.reduceLeDiff, Nat.reduceMul, k1, k4, hk.vc, hia, hH, ho, hr, c90', hw, hin]
      have step : isKey kk[i] = true → (∀ h : 0 < i, kk[i - 1]'(by omega) < kk[i]) → (∀ x ∈ kk.take (i + 1), isKey x = true) ∧ ∀ j, j + 1 < i + 1 → ∀ a b, kk[j]? = some a → kk[j + 1]? = some b → a < b := fun h1 h2 => ⟨fun x hx => by
          rw [List.take_succ_eq_append_getElem hil] at hx
          rcases List.mem_append.1 hx with h | h
          · exact hn x h
          · rw [List.mem_singleton] at h; subst h; exact h1, fun j hj a b ha hb => by
          by_cases e : j + 1 = i
          · subst e
            rw [List.getElem?_eq_getElem (by omega)] at ha hb
            cases ha; cases hb
            exact h2 (by omega)
          · exact hlt j (by omega) a b ha hb⟩
      cases q2 : isKey kk[i] <;> simp only [go_sem, ↓reduceIte, Nat.reduceEqDiff, reduceCtorEq, Nat.reduceAdd, Nat.reduceLeDiff, Nat.reduceMul, k1, k4, hk.vc]
      · refine ⟨by rfl, ?_⟩
        rw [kn_no (fun h2 => by rw [h2.2.2.2.1 _ (List.getElem_mem hil)] at q2; cases q2)]
      cases q3 : decide ((i : Int) > 0) <;> simp only [go_sem, ↓reduceIte, Nat.reduceEqDiff, reduceCtorEq, Nat.reduceAdd, Nat.reduceLeDiff, Nat.reduceMul, k1, k4, hk.vc]
      · refine ⟨by rfl, ?_⟩
        simp only [go_sem, ↓reduceIte, Nat.reduceEqDiff, reduceCtorEq, Nat.reduceAdd, Nat.reduceLeDiff, Nat.reduceMul, k1, k4, wrap64 ((i : Int) + 1) (by omega) (by omega)]
        have := of_decide_eq_false q3
        exact ⟨hil, by simp, step q2 (fun h => by omega)⟩
      · have h0 : 0 < i := by have := of_decide_eq_true q3; omega
        obtain ⟨id2, p2, o2, ho2, hr2, hia2⟩ := hk.int (List.getElem?_eq_getElem (show i - 1 < kk.length by omega))
        have e1 : ((i - 1 : Nat) : Int) = (i : Int) - 1 := by omega
        rw [e1] at hia2
        simp only [go_sem, ↓reduceIte, Nat.reduceEqDiff, reduceCtorEq, Nat.reduceAdd, Nat.reduceLeDiff, Nat.reduceMul, k1, k4, hk.vc, hia, hia2, hH, ho, hr, ho2, hr2, wrap64 ((i : Int) - 1) (by omega) (by omega)]
        refine ⟨by rfl, ?_⟩
        refine brT.intro (fun h4 => ?_) (fun h4 => ?_) <;> simp only [go_sem, ↓reduceIte, Nat.reduceEqDiff, reduceCtorEq, Nat.reduceAdd, Nat.reduceLeDiff, Nat.reduceMul, k1, k4, wrap64 ((i : Int) + 1) (by omega) (by omega)]
        · have h5 := of_decide_eq_true h4
          rw [kn_no (fun h2 => by
            have := h2.2.2.2.2 (i - 1) (by omega) kk[i - 1] kk[i] (List.getElem?_eq_getElem (show i - 1 < kk.length by omega)) (by rw [show i - 1 + 1 = i by omega]; exact List.getElem?_eq_getElem hil)
            omega)]
        · have h5 := of_decide_eq_false h4
          exact ⟨hil, by simp, step q2 (fun h => by omega)⟩
    · rintro s ⟨hH, hkey, hr⟩
      rw [kn_t.2 ⟨by omega, by omega, hall, hkey, hr⟩]
      simp only [go_sem, ↓reduceIte, Nat.reduceEqDiff, reduceCtorEq, Nat.reduceAdd, Nat.reduceLeDiff, Nat.reduceMul, hH]
end Go.Proofs.Ytpdkgbamakileaa.Ev

/- Is a step as said: both ways. -/
namespace Go.Proofs.Ytpdkgbamakileaa.Ev
set_option linter.all false
open Go
set_option maxRecDepth 4000

/-- Term, out of which step, with which. -/
abbrev Wy := ByteArray × Int × Int
def eWy (w : Wy) : List Value := [.string w.1, .int .i64 w.2.1, .int .i64 w.2.2]
def vWy (w : Wy) : Value := .agg #[.string w.1, .int .i64 w.2.1, .int .i64 w.2.2]
abbrev SlWy (H : Hp) (v : Value) (l : List Wy) : Prop := Sl (En eWy) 3 H v l
noncomputable def inS (t : ByteArray) : ByteArray := rest t (1 + (rdV (rest t 1)).2)
noncomputable def lkS (t : ByteArray) : Int := ((rdV (rest t 1)).1 : Nat)
noncomputable def keyB (n : Int) : ByteArray := okB ((⟨#[107]⟩ : ByteArray) ++ varB n)

/-- The term of a key is just that. -/
theorem keyB_ok {n : Int} (h : isKey n = true) : tOk (keyB n) = true ∧ keyB n = (⟨#[107]⟩ : ByteArray) ++ varB n ∧ (keyB n)[0]? = some 107 ∧ lkS (keyB n) = n := by
  simp only [isKey, Bool.and_eq_true, decide_eq_true_eq] at h
  have hn : ((n.toNat : Nat) : Int) = n := Int.toNat_of_nonneg (by omega)
  have hr : rdV (varB n) = (n.toNat, (varL n.toNat).length) := by
    have := read_var (n := n.toNat) (x := ByteArray.empty) (by omega)
    rw [hn] at this
    simpa using this
  have hV : (varB n).size = (varL n.toNat).length := by unfold varB; rw [if_pos (by omega), strOf_size]
  have hp := varL_pos n.toNat
  have h7 := varB_size n
  have h1 : ((⟨#[107]⟩ : ByteArray) ++ varB n)[0]? = some 107 := ch_get 107 _
  have hrest : rest ((⟨#[107]⟩ : ByteArray) ++ varB n) 1 = varB n := rest_one 107 _
  have hsz : ((⟨#[107]⟩ : ByteArray) ++ varB n).size = 1 + (varB n).size := by rw [app_size, sz1]
  have hT : tOk ((⟨#[107]⟩ : ByteArray) ++ varB n) = true := by
    rw [tOk_t]
    refine ⟨by omega, by omega, ?_⟩
    show tmStep _ _ 0 = _
    unfold tmStep
    rw [h1]
    simp only [Nat.zero_add]
    rw [hrest, hr, if_neg (by simp only; omega), if_neg (by decide), if_pos trivial, if_pos ⟨by simp only; omega, by simp only; omega⟩, hsz, hV]
  have hk : keyB n = (⟨#[107]⟩ : ByteArray) ++ varB n := by unfold keyB okB; rw [if_pos hT]
  rw [hk]
  refine ⟨hT, rfl, h1, ?_⟩
  unfold lkS
  rw [hrest, hr]
  exact hn
theorem key_of {s : ByteArray} (h : isB s 107 = true) : isKey (lkS s) = true ∧ s = keyB (lkS s) := by
  obtain ⟨ht, hc⟩ := isB_t.1 h
  obtain ⟨h1, h2, h3⟩ := tOk_t.1 ht
  have h3 : tmStep s (tmE s 7) 0 = some s.size := h3
  unfold tmStep at h3
  rw [hc] at h3
  simp only [Nat.zero_add] at h3
  split at h3
  · cases h3
  · rename_i hk0
    rw [if_neg (by decide), if_pos trivial] at h3
    split at h3
    · rename_i hin
      have hin' : isKey (lkS s) = true := by
        have hb : (1 : Int) ≤ lkS s ∧ lkS s ≤ 1000000 := by unfold lkS; omega
        unfold isKey
        simp only [Bool.and_eq_true, decide_eq_true_eq]
        exact ⟨hb.1, hb.2⟩
      refine ⟨hin', ?_⟩
      rw [(keyB_ok hin').2.1]
      have hsz := Option.some.inj h3
      rcases rdV_cases (rest s 1) with he | ⟨n, k, he, hv⟩
      · rw [he] at hk0; exact absurd rfl hk0
      · have hl : lkS s = (n : Int) := by unfold lkS; rw [he]
        rw [he] at hsz
        obtain ⟨_, _, h6, h7, h8⟩ := hv
        unfold isV at h8
        rw [← h7] at h8
        rw [hl, h8]
        have hk : k = (rest s 1).size := by rw [rest_size]; simp only at hsz; omega
        rw [hk]
        have e1 : (rest s 1).extract 0 (rest s 1).size = rest s 1 := ByteArray.extract_zero_size
        rw [e1]
        refine ByteArray.ext (Array.ext_getElem? fun i => ?_)
        show s[i]? = ((⟨#[107]⟩ : ByteArray) ++ rest s 1)[i]?
        cases i with
        | zero => rw [hc]; exact (ch_get 107 _).symm
        | succ i =>
          have e2 : ((⟨#[107]⟩ : ByteArray) ++ rest s 1)[i + 1]? = (rest s 1)[i]? := by
            have := cat_right (a := (⟨#[107]⟩ : ByteArray)) (b := rest s 1) (i := i)
            rw [show (⟨#[107]⟩ : ByteArray).size + i = i + 1 by rw [sz1]; omega] at this
            exact this
          rw [e2]
          unfold rest
          show s.data[i + 1]? = (s.extract 1 s.size).data[i]?
          rw [ByteArray.data_extract, Array.getElem?_extract]
          have hds : s.size = s.data.size := rfl
          split
          · congr 1; omega
          · rename_i hlt
            rw [Array.getElem?_eq_none (by omega)]
    · cases h3
/-- A term is a key's just when it is read as that key. -/
theorem key_iff {s : ByteArray} {n : Int} (hn : isKey n = true) : s = keyB n ↔ isB s 107 = true ∧ lkS s = n := by
  constructor
  · rintro rfl
    have h := keyB_ok hn
    exact ⟨isB_t.2 ⟨h.1, h.2.2.1⟩, h.2.2.2⟩
  · rintro ⟨h1, rfl⟩
    exact (key_of h1).2
theorem lock_key {t : ByteArray} (h : isB t 115 = true) : isKey (lkS t) = true := by
  obtain ⟨ht, hc⟩ := isB_t.1 h
  obtain ⟨h1, h2, h3⟩ := tOk_t.1 ht
  have h3 : tmStep t (tmE t 7) 0 = some t.size := h3
  unfold tmStep at h3
  rw [hc] at h3
  simp only [Nat.zero_add] at h3
  split at h3
  · cases h3
  · rw [if_neg (by decide), if_neg (by decide), if_neg (by decide), if_pos trivial] at h3
    split at h3
    · rename_i hin
      have hb : (1 : Int) ≤ lkS t ∧ lkS t ≤ 1000000 := by unfold lkS; omega
      unfold isKey
      simp only [Bool.and_eq_true, decide_eq_true_eq]
      exact ⟨hb.1, hb.2⟩
    · cases h3

def WyOk (kt : List ByteArray) (kk : List Int) (l : List Wy) (i : Nat) (w : Wy) : Prop :=
  (w.2.1 = -1 ∧ w.2.2 = -1 ∧ w.1 ∈ kt) ∨
  (0 ≤ w.2.1 ∧ w.2.1 < i ∧ ∀ u, l[w.2.1.toNat]? = some u →
    ((isB u.1 108 = true ∧ w.2.2 = -1 ∧ w.1 ∈ (partsB u.1).getD []) ∨
     (isB u.1 115 = true ∧ inS u.1 = w.1 ∧ ((w.2.2 = -2 ∧ lkS u.1 ∈ kk) ∨ (0 ≤ w.2.2 ∧ w.2.2 < i ∧ ∀ x, l[w.2.2.toNat]? = some x → x.1 = keyB (lkS u.1))))))
open Classical in
noncomputable def wyB (kt : List ByteArray) (kk : List Int) (l : List Wy) (i : Nat) : Bool := decide (∀ w, l[i]? = some w → WyOk kt kk l i w)
theorem wy_t {kt : List ByteArray} {kk : List Int} {l : List Wy} {i : Nat} : wyB kt kk l i = true ↔ ∀ w, l[i]? = some w → WyOk kt kk l i w := by unfold wyB; simp
theorem wy_yes {kt : List ByteArray} {kk : List Int} {l : List Wy} {i : Nat} {w : Wy} (hi : l[i]? = some w) (h : WyOk kt kk l i w) : wyB kt kk l i = true := by
  rw [wy_t]
  intro w' hw'
  rw [hi] at hw'
  cases hw'
  exact h
theorem wy_no {kt : List ByteArray} {kk : List Int} {l : List Wy} {i : Nat} {w : Wy} (hi : l[i]? = some w) (h : ¬ WyOk kt kk l i w) : wyB kt kk l i = false := by
  cases h2 : wyB kt kk l i with
  | false => rfl
  | true => exact absurd (wy_t.1 h2 w hi) h
theorem isB_ne {s : ByteArray} {a b : UInt8} (h : isB s a = true) (hab : a ≠ b) : isB s b = false := by
  cases h2 : isB s b with
  | false => rfl
  | true =>
    have h3 := (isB_t.1 h).2
    rw [(isB_t.1 h2).2] at h3
    exact absurd (Option.some.inj h3).symm hab

theorem f114 {H : Hp} {n : Int} : Scal EE 114 [.int .i64 n] H (.string (keyB n)) := by
  refine scal_ok rfl rfl k114 (by simp [c114]) rfl fun m hw => ?_
  have a99 := fun {m draw t d ts Q} => callT_at (m := m) (draw := draw) (s := t) (d := d) (ts := ts) (Q := Q) (f99 (H := H) (n := n))
  have h7 := varB_size n
  have hs : (⟨#[107]⟩ : ByteArray).size + (varB n).size ≤ 9223372036854775807 := by rw [sz1]; omega
  have a98 := fun {m draw t d ts Q} => callT_at (m := m) (draw := draw) (s := t) (d := d) (ts := ts) (Q := Q) (f98 (H := H) (s := (⟨#[107]⟩ : ByteArray) ++ varB n) (by rw [app_size, sz1]; omega))
  simp only [go_sem, ↓reduceIte, Nat.reduceEqDiff, reduceCtorEq, Nat.reduceAdd, Nat.reduceLeDiff, Nat.reduceMul, c114, a99, hw, hs, a98]
  rfl

theorem parts_some {s : ByteArray} : (partsB s).isSome = isB s 108 := by
  cases h : isB s 108 with
  | true => rw [partsB_yes h]; rfl
  | false => rw [partsB_no h]; rfl

theorem f76 {H : Hp} {vt vk vl : Value} {kt : List ByteArray} {kk : List Int} {l : List Wy} {i : Nat} (ht : SlS H vt kt) (hk : SlI H vk kk) (hl : SlWy H vl l) (hz : ∀ w ∈ l, w.1.size ≤ 4611686018427387904) (hi : i < l.length) (hle : l.length ≤ 4611686018427387904) :
    Scal EE 76 [.agg #[vt, vk], vl, .int .i64 i] H (.bool (wyB kt kk l i)) := by
  refine scal_ok rfl rfl k76 (by simp [c76]) rfl fun m hw => ?_
  obtain ⟨w, hwi⟩ : ∃ w, l[i]? = some w := ⟨_, List.getElem?_eq_getElem hi⟩
  obtain ⟨id, p, o, ho, hr, hp, hia⟩ := hl.elem hwi
  unfold En at hr
  have yes := fun h => wy_yes (kt := kt) (kk := kk) hwi h
  have no := fun h => wy_no (kt := kt) (kk := kk) hwi h
  obtain ⟨wt, wf, ww⟩ := w
  simp only [go_sem, ↓reduceIte, Nat.reduceEqDiff, reduceCtorEq, Nat.reduceAdd, Nat.reduceLeDiff, Nat.reduceMul, c76, ht.vc, hk.vc, hia, ho, hr, hp, eWy]
  refine brT.intro (fun q1 => ?_) (fun q1 => ?_) <;> simp only [go_sem, ↓reduceIte, Nat.reduceEqDiff, reduceCtorEq, Nat.reduceAdd, Nat.reduceLeDiff, Nat.reduceMul, ht.vc]
  · have q1' : wf = -1 := of_decide_eq_true q1
    subst q1'
    have a111 := fun {m draw t d ts Q} => callT_at (m := m) (draw := draw) (s := t) (d := d) (ts := ts) (Q := Q) (f111 (a := wt) ht)
    cases q2 : decide (ww = -1) <;> simp only [go_sem, ↓reduceIte, Nat.reduceEqDiff, reduceCtorEq, Nat.reduceAdd, Nat.reduceLeDiff, Nat.reduceMul, ht.vc, a111, hw]
    · rw [no (fun h => by
        have := of_decide_eq_false q2
        rcases h with h | h
        · exact this h.2.1
        · exact absurd (show (0 : Int) ≤ -1 from h.1) (by decide))]
    · cases q3 : memS wt kt with
      | true => rw [yes (.inl ⟨rfl, of_decide_eq_true q2, memS_t.1 q3⟩)]
      | false => rw [no (fun h => by
          rcases h with h | h
          · exact memS_f.1 q3 h.2.2
          · exact absurd (show (0 : Int) ≤ -1 from h.1) (by decide))]
  have q1' : wf ≠ -1 := of_decide_eq_false q1
  have w1 : IntKind.i64.wrap ((i : Int) - 1) = (i : Int) - 1 := wrap64 _ (by omega) (by omega)
  simp only [go_sem, ↓reduceIte, Nat.reduceEqDiff, reduceCtorEq, Nat.reduceAdd, Nat.reduceLeDiff, Nat.reduceMul, w1, c112', hw]
  cases q2 : (decide (wf ≥ 0) && decide (wf ≤ (i : Int) - 1)) <;> simp only [go_sem, ↓reduceIte, Nat.reduceEqDiff, reduceCtorEq, Nat.reduceAdd, Nat.reduceLeDiff, Nat.reduceMul]
  · rw [no (fun h => by
      simp only [Bool.and_eq_false_iff, decide_eq_false_iff_not] at q2
      rcases h with h | h
      · exact q1' h.1
      · have a1 : 0 ≤ wf := h.1
        have a2 : wf < (i : Int) := h.2.1
        omega)]
  simp only [Bool.and_eq_true, decide_eq_true_eq] at q2
  obtain ⟨f, rfl⟩ : ∃ f : Nat, wf = f := ⟨wf.toNat, by omega⟩
  have hf : f < i := by omega
  obtain ⟨u, hu⟩ : ∃ u, l[f]? = some u := ⟨_, List.getElem?_eq_getElem (by omega)⟩
  obtain ⟨id2, p2, o2, ho2, hr2, hp2, hia2⟩ := hl.elem hu
  unfold En at hr2
  have hg2 : o2[p2]? = some (.string u.1) := by simpa [eWy] using getElem?_of_take hr2 (j := 0) (by omega)
  have hus := hz _ (List.mem_of_getElem? hu)
  have ftn : ((f : Int)).toNat = f := rfl
  -- what is left to be shown
  have no2 : ¬ ((isB u.1 108 = true ∧ ww = -1 ∧ wt ∈ (partsB u.1).getD []) ∨ (isB u.1 115 = true ∧ inS u.1 = wt ∧ ((ww = -2 ∧ lkS u.1 ∈ kk) ∨ (0 ≤ ww ∧ ww < i ∧ ∀ x, l[ww.toNat]? = some x → x.1 = keyB (lkS u.1))))) → wyB kt kk l i = false := fun h => no (fun h2 => by
    rcases h2 with h2 | h2
    · exact q1' h2.1
    · exact h (h2.2.2 u hu))
  have yes2 : ((isB u.1 108 = true ∧ ww = -1 ∧ wt ∈ (partsB u.1).getD []) ∨ (isB u.1 115 = true ∧ inS u.1 = wt ∧ ((ww = -2 ∧ lkS u.1 ∈ kk) ∨ (0 ≤ ww ∧ ww < i ∧ ∀ x, l[ww.toNat]? = some x → x.1 = keyB (lkS u.1))))) → wyB kt kk l i = true := fun h => yes (.inr ⟨(by omega : (0 : Int) ≤ (f : Int)), (by omega : (f : Int) < (i : Int)), fun u' hu' => by
    have : l[f]? = some u' := hu'
    rw [hu] at this
    cases this
    exact h⟩)
  simp only [go_sem, ↓reduceIte, Nat.reduceEqDiff, reduceCtorEq, Nat.reduceAdd, Nat.reduceLeDiff, Nat.reduceMul, hia2, ho2, hg2]
  refine callT_to (fun m' h => f81 (H := H) hus h) rfl hw fun r1 H1 ⟨wp, e1, p1, s1, o1⟩ => ?_
  subst e1
  have hw1 := hw.pre p1
  simp only [go_sem, ↓reduceIte, Nat.reduceEqDiff, reduceCtorEq, Nat.reduceAdd, Nat.reduceLeDiff, Nat.reduceMul, List.getElem?_toArray, ofV, parts_some]
  cases q3 : isB u.1 108 <;> simp only [go_sem, ↓reduceIte, Nat.reduceEqDiff, reduceCtorEq, Nat.reduceAdd, Nat.reduceLeDiff, Nat.reduceMul]
  rotate_left
  · have a111 := fun {m draw t d ts Q} => callT_at (m := m) (draw := draw) (s := t) (d := d) (ts := ts) (Q := Q) (f111 (a := wt) s1)
    cases q4 : decide (ww = -1) <;> simp only [go_sem, ↓reduceIte, Nat.reduceEqDiff, reduceCtorEq, Nat.reduceAdd, Nat.reduceLeDiff, Nat.reduceMul, a111, hw1]
    · rw [no2 (fun h => by
        have := of_decide_eq_false q4
        rcases h with h | h
        · exact this h.2.1
        · rw [isB_ne q3 (by decide)] at h; exact absurd h.1 (by decide))]
      exact ⟨rfl, pre_take p1⟩
    · cases q5 : memS wt ((partsB u.1).getD []) with
      | true =>
        rw [yes2 (.inl ⟨q3, of_decide_eq_true q4, memS_t.1 q5⟩)]
        exact ⟨rfl, pre_take p1⟩
      | false =>
        rw [no2 (fun h => by
          rcases h with h | h
          · exact memS_f.1 q5 h.2.2
          · rw [isB_ne q3 (by decide)] at h; exact absurd h.1 (by decide))]
        exact ⟨rfl, pre_take p1⟩
  have a83 := fun {m draw t d ts Q} => callT_at (m := m) (draw := draw) (s := t) (d := d) (ts := ts) (Q := Q) (f83 (H := H1) hus)
  simp only [go_sem, ↓reduceIte, Nat.reduceEqDiff, reduceCtorEq, Nat.reduceAdd, Nat.reduceLeDiff, Nat.reduceMul, a83, hw1]
  unfold sealedV
  cases q4 : isB u.1 115 with
  | false =>
    have d1 : (false = true) = False := by simp
    simp only [go_sem, ↓reduceIte, Nat.reduceEqDiff, reduceCtorEq, Nat.reduceAdd, Nat.reduceLeDiff, Nat.reduceMul, d1, List.getElem?_toArray, ofV]
    rw [no2 (fun h => by
      rcases h with h | h
      · rw [q3] at h; exact absurd h.1 (by decide)
      · rw [q4] at h; exact absurd h.1 (by decide))]
    exact ⟨rfl, pre_take p1⟩
  | true =>
    simp only [go_sem, ↓reduceIte, Nat.reduceEqDiff, reduceCtorEq, Nat.reduceAdd, Nat.reduceLeDiff, Nat.reduceMul, List.getElem?_toArray, ofV]
    have ein : rest u.1 (1 + (rdV (rest u.1 1)).2) = inS u.1 := rfl
    have elk : (((rdV (rest u.1 1)).1 : Nat) : Int) = lkS u.1 := rfl
    rw [ein, elk]
    cases q5 : decide (inS u.1 = wt) <;> simp only [go_sem, ↓reduceIte, Nat.reduceEqDiff, reduceCtorEq, Nat.reduceAdd, Nat.reduceLeDiff, Nat.reduceMul]
    · rw [no2 (fun h => by
        rcases h with h | h
        · rw [q3] at h; exact absurd h.1 (by decide)
        · exact of_decide_eq_false q5 h.2.1)]
      exact ⟨rfl, pre_take p1⟩
    have q5' := of_decide_eq_true q5
    have k1 := hk.pre p1
    have a113 := fun {m draw t d ts Q} => callT_at (m := m) (draw := draw) (s := t) (d := d) (ts := ts) (Q := Q) (f113 (a := lkS u.1) k1)
    cases q6 : decide (ww = -2) with
    | true =>
      have q6' : ww = -2 := of_decide_eq_true q6
      subst q6'
      simp only [go_sem, ↓reduceIte, Nat.reduceEqDiff, reduceCtorEq, Nat.reduceAdd, Nat.reduceLeDiff, Nat.reduceMul, hk.vc, a113, hw1]
      cases q7 : decide (lkS u.1 ∈ kk) with
      | true =>
        rw [yes2 (.inr ⟨q4, q5', .inl ⟨rfl, of_decide_eq_true q7⟩⟩)]
        exact ⟨rfl, pre_take p1⟩
      | false =>
        rw [no2 (fun h => by
          rcases h with h | h
          · rw [q3] at h; exact absurd h.1 (by decide)
          · rcases h.2.2 with h | h
            · exact of_decide_eq_false q7 h.2
            · exact absurd h.1 (by decide))]
        exact ⟨rfl, pre_take p1⟩
    | false =>
      have q6' := of_decide_eq_false q6
      simp only [go_sem, ↓reduceIte, Nat.reduceEqDiff, reduceCtorEq, Nat.reduceAdd, Nat.reduceLeDiff, Nat.reduceMul]
      have hle0 : decide (H1.length ≤ H1.length) = true := decide_eq_true (Nat.le_refl _)
      refine go_draw2 H1.length ?_
      simp only [go_sem, ↓reduceIte, Nat.reduceEqDiff, reduceCtorEq, Nat.reduceAdd, Nat.reduceLeDiff, Nat.reduceMul, w1, c112', hw1, hle0]
      cases q7 : (decide (ww ≥ 0) && decide (ww ≤ (i : Int) - 1)) with
      | false =>
        simp only [go_sem, ↓reduceIte, Nat.reduceEqDiff, reduceCtorEq, Nat.reduceAdd, Nat.reduceLeDiff, Nat.reduceMul]
        refine ⟨by rfl, ?_⟩
        rw [no2 (fun h => by
          simp only [Bool.and_eq_false_iff, decide_eq_false_iff_not] at q7
          rcases h with h | h
          · rw [q3] at h; exact absurd h.1 (by decide)
          · rcases h.2.2 with h | h
            · exact q6' h.1
            · have := h.1; have := h.2.1; omega)]
        exact ⟨rfl, pre_take p1⟩
      | true =>
        simp only [Bool.and_eq_true, decide_eq_true_eq] at q7
        obtain ⟨g, rfl⟩ : ∃ g : Nat, ww = g := ⟨ww.toNat, by omega⟩
        have hg : g < i := by omega
        obtain ⟨x, hx⟩ : ∃ x, l[g]? = some x := ⟨_, List.getElem?_eq_getElem (by omega)⟩
        obtain ⟨id3, p3, o3, ho3, hr3, hp3, hia3⟩ := (hl.pre p1).elem hx
        unfold En at hr3
        have hg3 : o3[p3]? = some (.string x.1) := by simpa [eWy] using getElem?_of_take hr3 (j := 0) (by omega)
        have a114 := fun {m draw t d ts Q} => callT_at (m := m) (draw := draw) (s := t) (d := d) (ts := ts) (Q := Q) (f114 (H := H1) (n := lkS u.1))
        have hlt3 : decide (id3 < H1.length) = true := decide_eq_true (List.getElem?_eq_some_iff.1 ho3).1
        simp only [go_sem, ↓reduceIte, Nat.reduceEqDiff, reduceCtorEq, Nat.reduceAdd, Nat.reduceLeDiff, Nat.reduceMul, hia3, ho3, hg3, a114, hw1, hle0, hlt3]
        refine ⟨by rfl, ?_⟩
        have hgt : ((g : Int)).toNat = g := rfl
        cases q8 : decide (x.1 = keyB (lkS u.1)) with
        | true =>
          rw [yes2 (.inr ⟨q4, q5', .inr ⟨by omega, by omega, fun x' hx' => by
            have : l[g]? = some x' := hx'
            rw [hx] at this
            cases this
            exact of_decide_eq_true q8⟩⟩)]
          exact ⟨rfl, pre_take p1⟩
        | false =>
          rw [no2 (fun h => by
            rcases h with h | h
            · rw [q3] at h; exact absurd h.1 (by decide)
            · rcases h.2.2 with h | h
              · exact q6' h.1
              · exact of_decide_eq_false q8 (h.2.2 x hx))]
          exact ⟨rfl, pre_take p1⟩
end Go.Proofs.Ytpdkgbamakileaa.Ev

/- The types of the laws' parameters: what is known, steps. -/
namespace Go.Proofs.Ytpdkgbamakileaa.Ev
set_option linter.all false
open Go
set_option maxRecDepth 100000
theorem bSs : Bld Try.prog 33 1 (fun M (l : List ByteArray) vs => ∃ v, vs = [v] ∧ SlS M v l) (fun l => ∀ z ∈ l, z.size ≤ maxLen) :=
  (Bld.slice (t := 33) Try.underlying33 (by kernel_rfl) bStr).conv (fun l => l) (fun M z vs h => h) (fun hp ⟨v, e, h⟩ => ⟨v, e, h.pre hp⟩) (fun _ h => h.2)
theorem bIs : Bld Try.prog 54 1 (fun M (l : List Int) vs => ∃ v, vs = [v] ∧ SlI M v l) (fun _ => True) :=
  (Bld.slice (t := 54) Try.underlying54 (by kernel_rfl) (bI.conv (R' := fun _ (n : Int) vs => En eI n vs) (fun n => n) (fun _ _ _ h => h) (fun _ h => h) (fun _ h => h))).conv (fun l => l) (fun M z vs h => h) (fun hp ⟨v, e, h⟩ => ⟨v, e, h.pre hp⟩) (fun _ _ => trivial)
theorem bKn : Bld Try.prog 56 2 (fun M (k : List ByteArray × List Int) vs => ∃ wt wk, vs = [wt, wk] ∧ SlS M wt k.1 ∧ SlI M wk k.2) (fun k => ∀ z ∈ k.1, z.size ≤ maxLen) :=
  (Bld.struct (t := 56) Try.underlying56 (by kernel_rfl) (SeqB.cons (off := 0) (off' := 1) bSs rfl (SeqB.one bIs))).conv (fun h => h)
    (fun M z vs ⟨u, v, e, ⟨a, ea, ha⟩, ⟨b, eb, hb⟩⟩ => by subst ea eb; exact ⟨a, b, e, ha, hb⟩) (fun hp ⟨a, b, e, h1, h2⟩ => ⟨a, b, e, h1.pre hp, h2.pre hp⟩) (fun _ h => h.1)
theorem aKn : ArgB Try.prog 56 (fun M (k : List ByteArray × List Int) v => ∃ wt wk, v = .agg #[wt, wk] ∧ SlS M wt k.1 ∧ SlI M wk k.2) (fun k => ∀ z ∈ k.1, z.size ≤ maxLen) :=
  have h := ArgB.struct (t := 56) Try.underlying56 bKn
  ⟨fun hp ⟨a, b, e, h1, h2⟩ => ⟨a, b, e, h1.pre hp, h2.pre hp⟩, fun a b J M r => by
    obtain ⟨J', M', u, z, a1, a2, a3, ⟨vs, e1, wt, wk, e2, h1, h2⟩, a5⟩ := h.arg a b J M r
    have e3 : vs = #[wt, wk] := Array.toList_inj.1 e2
    subst e3
    exact ⟨J', M', u, z, a1, a2, a3, ⟨wt, wk, e1, h1, h2⟩, a5⟩⟩
theorem bWy : Bld Try.prog 97 3 (fun _ (z : Wy) vs => En eWy z vs) (fun z => z.1.size ≤ maxLen) :=
  (Bld.struct (t := 97) Try.underlying97 (by kernel_rfl) (SeqB.cons (off := 0) (off' := 1) bS rfl (SeqB.cons (off' := 2) bI rfl (SeqB.one bI)))).conv (fun h => h)
    (fun M z vs ⟨u, v, e, a, w, x, e2, b, c⟩ => by subst a b c; subst e2; exact e) (fun _ h => h) (fun _ h => h.1)
theorem aWys : ArgB Try.prog 57 (fun M (l : List Wy) v => SlWy M v l) (fun l => ∀ z ∈ l, z.1.size ≤ maxLen) :=
  have h := ArgB.slice (t := 57) (e := 97) Try.underlying57 (by kernel_rfl) bWy
  ⟨h.mono, fun a b J M r => by
    obtain ⟨J', M', u, z, a1, a2, a3, a4, a5⟩ := h.arg a b J M r
    exact ⟨J', M', u, z, a1, a2, a3, a4, a5.2⟩⟩
end Go.Proofs.Ytpdkgbamakileaa.Ev

/- Is a step as said: the reference's way; the law StepsOk. -/
namespace Go.Proofs.Ytpdkgbamakileaa.Ev
set_option linter.all false
open Go
set_option maxRecDepth 4000

noncomputable def lockI (t : ByteArray) : Int := if t[0]? = some 115 then lkS t else 0
theorem chd107 (c : UInt8) : decide (((c.toNat : Nat) : Int) = 107) = decide (c = 107) := chd 107 (by decide) c
theorem f108 {H : Hp} {t : ByteArray} (hs : t.size ≤ 4611686018427387904) : Scal EE 108 [.string t] H (.int .i64 (lockI t)) := by
  refine scal_ok rfl rfl k108 (by simp [c108]) rfl fun m hw => ?_
  simp only [go_sem, ↓reduceIte, Nat.reduceEqDiff, reduceCtorEq, Nat.reduceAdd, Nat.reduceLeDiff, Nat.reduceMul, c108, lenTK]
  cases q1 : decide ((t.size : Int) = 0) <;> simp only [go_sem, ↓reduceIte, Nat.reduceEqDiff, reduceCtorEq, Nat.reduceAdd, Nat.reduceLeDiff, Nat.reduceMul]
  rotate_left
  · have : t[0]? = none := getElem?_neg t 0 (by have := of_decide_eq_true q1; show ¬ 0 < t.size; omega)
    unfold lockI
    rw [this, if_neg (by simp)]
  have h0 : 0 < t.size := by have := of_decide_eq_false q1; omega
  obtain ⟨c, hc⟩ := byte_at h0
  have hix : ∀ {s : St} {x : X}, exv s.ρ x = some (.string t) → idxK s x (.c (.int .i64 0)) = some (.val (.int .u8 c.toNat), s) := fun hx => idx_at (i := 0) hc hx rfl
  simp only [go_sem, ↓reduceIte, Nat.reduceEqDiff, reduceCtorEq, Nat.reduceAdd, Nat.reduceLeDiff, Nat.reduceMul, hix, chd115]
  cases q2 : decide (c = 115) <;> simp only [go_sem, ↓reduceIte, Nat.reduceEqDiff, reduceCtorEq, Nat.reduceAdd, Nat.reduceLeDiff, Nat.reduceMul]
  · unfold lockI
    rw [hc, if_neg (fun h => of_decide_eq_false q2 (Option.some.inj h))]
  · have hsl : ∀ {s : St} {x : X}, exv s.ρ x = some (.string t) → slcSK s x (some (.c (.int .i64 1))) none = some (.val (.string (rest t 1)), s) := fun hx => slc_rest (k := 1) (by omega) hx rfl
    have a127 := fun {m draw t' d ts Q} => callT_at (m := m) (draw := draw) (s := t') (d := d) (ts := ts) (Q := Q) (f127 (H := H) (s := rest t 1) (by rw [rest_size]; omega))
    simp only [go_sem, ↓reduceIte, Nat.reduceEqDiff, reduceCtorEq, Nat.reduceAdd, Nat.reduceLeDiff, Nat.reduceMul, hsl, a127, hw, List.getElem?_toArray, ofV]
    unfold lockI
    rw [hc, if_pos (by rw [of_decide_eq_true q2])]
    rfl
theorem open_lock (t : ByteArray) : openB t (lockI t) = if isB t 115 = true then some (inS t) else none := by
  cases h : isB t 115 with
  | false => rw [openB_no h]; rfl
  | true =>
    have e : lockI t = lkS t := by unfold lockI; rw [if_pos (isB_t.1 h).2]
    rw [e, if_pos rfl]
    exact openB_yes h rfl
theorem f110 {H : Hp} {s : ByteArray} (hs : s.size ≤ 4611686018427387904) : Scal EE 110 [.string s] H (.tuple #[.int .i64 (if isB s 107 = true then lkS s else 0), .bool (isB s 107)]) := by
  refine scal_ok rfl rfl k110 (by simp [c110]) rfl fun m hw => ?_
  have a88 := fun {m draw t' d ts Q} => callT_at (m := m) (draw := draw) (s := t') (d := d) (ts := ts) (Q := Q) (f88 (H := H) hs)
  simp only [go_sem, ↓reduceIte, Nat.reduceEqDiff, reduceCtorEq, Nat.reduceAdd, Nat.reduceLeDiff, Nat.reduceMul, c110, a88, hw]
  cases q1 : tOk s <;> simp only [go_sem, ↓reduceIte, Nat.reduceEqDiff, reduceCtorEq, Nat.reduceAdd, Nat.reduceLeDiff, Nat.reduceMul]
  · have : isB s 107 = false := by unfold isB; rw [q1]; rfl
    rw [this]
    rfl
  have h0 := (tOk_t.1 q1).1
  obtain ⟨c, hc⟩ := byte_at (show 0 < s.size by omega)
  have hix : ∀ {t : St} {x : X}, exv t.ρ x = some (.string s) → idxK t x (.c (.int .i64 0)) = some (.val (.int .u8 c.toNat), t) := fun hx => idx_at (i := 0) hc hx rfl
  simp only [go_sem, ↓reduceIte, Nat.reduceEqDiff, reduceCtorEq, Nat.reduceAdd, Nat.reduceLeDiff, Nat.reduceMul, hix, chd107]
  cases q2 : decide (c = 107) <;> simp only [go_sem, ↓reduceIte, Nat.reduceEqDiff, reduceCtorEq, Nat.reduceAdd, Nat.reduceLeDiff, Nat.reduceMul]
  · have : isB s 107 = false := by
      cases h : isB s 107 with
      | false => rfl
      | true =>
        have := (isB_t.1 h).2
        rw [hc] at this
        exact absurd (Option.some.inj this) (of_decide_eq_false q2)
    rw [this]
    rfl
  · have : isB s 107 = true := isB_t.2 ⟨q1, by rw [hc, of_decide_eq_true q2]⟩
    have hsl : ∀ {t : St} {x : X}, exv t.ρ x = some (.string s) → slcSK t x (some (.c (.int .i64 1))) none = some (.val (.string (rest s 1)), t) := fun hx => slc_rest (k := 1) (by omega) hx rfl
    have a127 := fun {m draw t' d ts Q} => callT_at (m := m) (draw := draw) (s := t') (d := d) (ts := ts) (Q := Q) (f127 (H := H) (s := rest s 1) (by rw [rest_size]; omega))
    simp only [go_sem, ↓reduceIte, Nat.reduceEqDiff, reduceCtorEq, Nat.reduceAdd, Nat.reduceLeDiff, Nat.reduceMul, hsl, a127, hw, List.getElem?_toArray, ofV]
    rw [this]
    rfl

theorem f73 {H : Hp} {vt vk vl : Value} {kt : List ByteArray} {kk : List Int} {l : List Wy} {i : Nat} (ht : SlS H vt kt) (hk : SlI H vk kk) (hl : SlWy H vl l) (hz : ∀ w ∈ l, w.1.size ≤ 4611686018427387904) (hi : i < l.length) (hle : l.length ≤ 4611686018427387904) :
    Scal EE 73 [.agg #[vt, vk], vl, .int .i64 i] H (.bool (wyB kt kk l i)) := by
  refine scal_ok rfl rfl k73 (by simp [c73]) rfl fun m hw => ?_
  obtain ⟨w, hwi⟩ : ∃ w, l[i]? = some w := ⟨_, List.getElem?_eq_getElem hi⟩
  obtain ⟨id, p, o, ho, hr, hp, hia⟩ := hl.elem hwi
  unfold En at hr
  have yes := fun h => wy_yes (kt := kt) (kk := kk) hwi h
  have no := fun h => wy_no (kt := kt) (kk := kk) hwi h
  obtain ⟨wt, wf, ww⟩ := w
  simp only [go_sem, ↓reduceIte, Nat.reduceEqDiff, reduceCtorEq, Nat.reduceAdd, Nat.reduceLeDiff, Nat.reduceMul, c73, ht.vc, hk.vc, hia, ho, hr, hp, eWy]
  refine brT.intro (fun q1 => ?_) (fun q1 => ?_) <;> simp only [go_sem, ↓reduceIte, Nat.reduceEqDiff, reduceCtorEq, Nat.reduceAdd, Nat.reduceLeDiff, Nat.reduceMul, ht.vc]
  · have q1' : wf = -1 := of_decide_eq_true q1
    subst q1'
    have a89 := fun {m draw t d ts Q} => callT_at (m := m) (draw := draw) (s := t) (d := d) (ts := ts) (Q := Q) (f89 (a := wt) ht)
    cases q2 : decide (ww = -1) <;> simp only [go_sem, ↓reduceIte, Nat.reduceEqDiff, reduceCtorEq, Nat.reduceAdd, Nat.reduceLeDiff, Nat.reduceMul, ht.vc, a89, hw]
    · rw [no (fun h => by
        have := of_decide_eq_false q2
        rcases h with h | h
        · exact this h.2.1
        · exact absurd (show (0 : Int) ≤ -1 from h.1) (by decide))]
    · cases q3 : memS wt kt with
      | true => rw [yes (.inl ⟨rfl, of_decide_eq_true q2, memS_t.1 q3⟩)]
      | false => rw [no (fun h => by
          rcases h with h | h
          · exact memS_f.1 q3 h.2.2
          · exact absurd (show (0 : Int) ≤ -1 from h.1) (by decide))]
  have q1' : wf ≠ -1 := of_decide_eq_false q1
  cases q2 : decide (wf < 0) <;> simp only [go_sem, ↓reduceIte, Nat.reduceEqDiff, reduceCtorEq, Nat.reduceAdd, Nat.reduceLeDiff, Nat.reduceMul]
  rotate_left
  · rw [no (fun h => by
      have := of_decide_eq_true q2
      rcases h with h | h
      · exact q1' h.1
      · have a1 : 0 ≤ wf := h.1
        omega)]
  cases q2b : decide (wf ≥ (i : Int)) <;> simp only [go_sem, ↓reduceIte, Nat.reduceEqDiff, reduceCtorEq, Nat.reduceAdd, Nat.reduceLeDiff, Nat.reduceMul]
  rotate_left
  · rw [no (fun h => by
      have := of_decide_eq_true q2b
      rcases h with h | h
      · exact q1' h.1
      · have a2 : wf < (i : Int) := h.2.1
        omega)]
  have q2' := of_decide_eq_false q2
  have q2b' := of_decide_eq_false q2b
  obtain ⟨f, rfl⟩ : ∃ f : Nat, wf = f := ⟨wf.toNat, by omega⟩
  have hf : f < i := by omega
  obtain ⟨u, hu⟩ : ∃ u, l[f]? = some u := ⟨_, List.getElem?_eq_getElem (by omega)⟩
  obtain ⟨id2, p2, o2, ho2, hr2, hp2, hia2⟩ := hl.elem hu
  unfold En at hr2
  have hg2 : o2[p2]? = some (.string u.1) := by simpa [eWy] using getElem?_of_take hr2 (j := 0) (by omega)
  have hus := hz _ (List.mem_of_getElem? hu)
  have no2 : ¬ ((isB u.1 108 = true ∧ ww = -1 ∧ wt ∈ (partsB u.1).getD []) ∨ (isB u.1 115 = true ∧ inS u.1 = wt ∧ ((ww = -2 ∧ lkS u.1 ∈ kk) ∨ (0 ≤ ww ∧ ww < i ∧ ∀ x, l[ww.toNat]? = some x → x.1 = keyB (lkS u.1))))) → wyB kt kk l i = false := fun h => no (fun h2 => by
    rcases h2 with h2 | h2
    · exact q1' h2.1
    · exact h (h2.2.2 u hu))
  have yes2 : ((isB u.1 108 = true ∧ ww = -1 ∧ wt ∈ (partsB u.1).getD []) ∨ (isB u.1 115 = true ∧ inS u.1 = wt ∧ ((ww = -2 ∧ lkS u.1 ∈ kk) ∨ (0 ≤ ww ∧ ww < i ∧ ∀ x, l[ww.toNat]? = some x → x.1 = keyB (lkS u.1))))) → wyB kt kk l i = true := fun h => yes (.inr ⟨(by omega : (0 : Int) ≤ (f : Int)), (by omega : (f : Int) < (i : Int)), fun u' hu' => by
    have : l[f]? = some u' := hu'
    rw [hu] at this
    cases this
    exact h⟩)
  simp only [go_sem, ↓reduceIte, Nat.reduceEqDiff, reduceCtorEq, Nat.reduceAdd, Nat.reduceLeDiff, Nat.reduceMul, hia2, ho2, hg2]
  refine brT.intro (fun q3 => ?_) (fun q3 => ?_) <;> simp only [go_sem, ↓reduceIte, Nat.reduceEqDiff, reduceCtorEq, Nat.reduceAdd, Nat.reduceLeDiff, Nat.reduceMul]
  · have q3' : ww = -1 := of_decide_eq_true q3
    subst q3'
    refine callT_to (fun m' h => f93 (H := H) hus h) rfl hw fun r1 H1 ⟨wp, e1, p1, s1, o1⟩ => ?_
    subst e1
    have hw1 := hw.pre p1
    have a89 := fun {m draw t d ts Q} => callT_at (m := m) (draw := draw) (s := t) (d := d) (ts := ts) (Q := Q) (f89 (a := wt) s1)
    simp only [go_sem, ↓reduceIte, Nat.reduceEqDiff, reduceCtorEq, Nat.reduceAdd, Nat.reduceLeDiff, Nat.reduceMul, List.getElem?_toArray, ofV, parts_some]
    cases q4 : isB u.1 108 <;> simp only [go_sem, ↓reduceIte, Nat.reduceEqDiff, reduceCtorEq, Nat.reduceAdd, Nat.reduceLeDiff, Nat.reduceMul, a89, hw1]
    · rw [no2 (fun h => by
        rcases h with h | h
        · rw [q4] at h; exact absurd h.1 (by decide)
        · rcases h.2.2 with h | h
          · exact absurd h.1 (by decide)
          · exact absurd h.1 (by decide))]
      exact ⟨rfl, pre_take p1⟩
    · cases q5 : memS wt ((partsB u.1).getD []) with
      | true =>
        rw [yes2 (.inl ⟨q4, rfl, memS_t.1 q5⟩)]
        exact ⟨rfl, pre_take p1⟩
      | false =>
        rw [no2 (fun h => by
          rcases h with h | h
          · exact memS_f.1 q5 h.2.2
          · rw [isB_ne q4 (by decide)] at h; exact absurd h.1 (by decide))]
        exact ⟨rfl, pre_take p1⟩
  have q3' : ww ≠ -1 := of_decide_eq_false q3
  have a108 := fun {m draw t' d ts Q} => callT_at (m := m) (draw := draw) (s := t') (d := d) (ts := ts) (Q := Q) (f108 (H := H) hus)
  have a100 := fun {m draw t' d ts Q} => callT_at (m := m) (draw := draw) (s := t') (d := d) (ts := ts) (Q := Q) (f100 (H := H) (k := lockI u.1) hus)
  simp only [go_sem, ↓reduceIte, Nat.reduceEqDiff, reduceCtorEq, Nat.reduceAdd, Nat.reduceLeDiff, Nat.reduceMul, a108, hw, a100, opV_at, open_lock, List.getElem?_toArray, ofV]
  cases q4 : isB u.1 115 with
  | false =>
    have d1 : (false = true) = False := by simp
    simp only [go_sem, ↓reduceIte, Nat.reduceEqDiff, reduceCtorEq, Nat.reduceAdd, Nat.reduceLeDiff, Nat.reduceMul, d1, Option.isSome_none]
    rw [no2 (fun h => by
      rcases h with h | h
      · exact q3' h.2.1
      · rw [q4] at h; exact absurd h.1 (by decide))]
  | true =>
    have elk : lockI u.1 = lkS u.1 := by unfold lockI; rw [if_pos (isB_t.1 q4).2]
    have d1 : (some (inS u.1)).isSome = true := rfl
    have d2 : (some (inS u.1)).getD ⟨#[]⟩ = inS u.1 := rfl
    simp only [go_sem, ↓reduceIte, Nat.reduceEqDiff, reduceCtorEq, Nat.reduceAdd, Nat.reduceLeDiff, Nat.reduceMul, d1, d2]
    cases q5 : decide (inS u.1 = wt) <;> simp only [go_sem, ↓reduceIte, Nat.reduceEqDiff, reduceCtorEq, Nat.reduceAdd, Nat.reduceLeDiff, Nat.reduceMul]
    · rw [no2 (fun h => by
        rcases h with h | h
        · exact q3' h.2.1
        · exact of_decide_eq_false q5 h.2.1)]
    have q5' := of_decide_eq_true q5
    rw [elk]
    have a109 := fun {m draw t d ts Q} => callT_at (m := m) (draw := draw) (s := t) (d := d) (ts := ts) (Q := Q) (f109 (a := lkS u.1) hk)
    cases q6 : decide (ww = -2) with
    | true =>
      have q6' : ww = -2 := of_decide_eq_true q6
      subst q6'
      simp only [go_sem, ↓reduceIte, Nat.reduceEqDiff, reduceCtorEq, Nat.reduceAdd, Nat.reduceLeDiff, Nat.reduceMul, hk.vc, a109, hw]
      cases q7 : decide (lkS u.1 ∈ kk) with
      | true => rw [yes2 (.inr ⟨q4, q5', .inl ⟨rfl, of_decide_eq_true q7⟩⟩)]
      | false =>
        rw [no2 (fun h => by
          rcases h with h | h
          · exact q3' h.2.1
          · rcases h.2.2 with h | h
            · exact of_decide_eq_false q7 h.2
            · exact absurd h.1 (by decide))]
    | false =>
      have q6' := of_decide_eq_false q6
      simp only [go_sem, ↓reduceIte, Nat.reduceEqDiff, reduceCtorEq, Nat.reduceAdd, Nat.reduceLeDiff, Nat.reduceMul]
      cases q7 : decide (ww < 0) <;> simp only [go_sem, ↓reduceIte, Nat.reduceEqDiff, reduceCtorEq, Nat.reduceAdd, Nat.reduceLeDiff, Nat.reduceMul]
      rotate_left
      · rw [no2 (fun h => by
          have := of_decide_eq_true q7
          rcases h with h | h
          · exact q3' h.2.1
          · rcases h.2.2 with h | h
            · exact q6' h.1
            · have := h.1; omega)]
      cases q8 : decide (ww ≥ (i : Int)) <;> simp only [go_sem, ↓reduceIte, Nat.reduceEqDiff, reduceCtorEq, Nat.reduceAdd, Nat.reduceLeDiff, Nat.reduceMul]
      rotate_left
      · rw [no2 (fun h => by
          have := of_decide_eq_true q8
          rcases h with h | h
          · exact q3' h.2.1
          · rcases h.2.2 with h | h
            · exact q6' h.1
            · have := h.2.1; omega)]
      have q7' := of_decide_eq_false q7
      have q8' := of_decide_eq_false q8
      obtain ⟨g, rfl⟩ : ∃ g : Nat, ww = g := ⟨ww.toNat, by omega⟩
      have hg : g < i := by omega
      obtain ⟨x, hx⟩ : ∃ x, l[g]? = some x := ⟨_, List.getElem?_eq_getElem (by omega)⟩
      obtain ⟨id3, p3, o3, ho3, hr3, hp3, hia3⟩ := hl.elem hx
      unfold En at hr3
      have hg3 : o3[p3]? = some (.string x.1) := by simpa [eWy] using getElem?_of_take hr3 (j := 0) (by omega)
      have hxs := hz _ (List.mem_of_getElem? hx)
      have a110 := fun {m draw t d ts Q} => callT_at (m := m) (draw := draw) (s := t) (d := d) (ts := ts) (Q := Q) (f110 (H := H) hxs)
      have hki := key_iff (s := x.1) (lock_key q4)
      simp only [go_sem, ↓reduceIte, Nat.reduceEqDiff, reduceCtorEq, Nat.reduceAdd, Nat.reduceLeDiff, Nat.reduceMul, hia3, ho3, hg3, a110, hw, List.getElem?_toArray, ofV]
      cases q9 : isB x.1 107 with
      | false =>
        simp only [go_sem, ↓reduceIte, Nat.reduceEqDiff, reduceCtorEq, Nat.reduceAdd, Nat.reduceLeDiff, Nat.reduceMul]
        rw [no2 (fun h => by
          rcases h with h | h
          · exact q3' h.2.1
          · rcases h.2.2 with h | h
            · exact q6' h.1
            · have := hki.1 (h.2.2 x hx)
              rw [q9] at this
              exact absurd this.1 (by decide))]
      | true =>
        simp only [go_sem, ↓reduceIte, Nat.reduceEqDiff, reduceCtorEq, Nat.reduceAdd, Nat.reduceLeDiff, Nat.reduceMul]
        cases q10 : decide (lkS x.1 = lkS u.1) with
        | true =>
          rw [yes2 (.inr ⟨q4, q5', .inr ⟨by omega, by omega, fun x' hx' => by
            have : l[g]? = some x' := hx'
            rw [hx] at this
            cases this
            exact hki.2 ⟨q9, of_decide_eq_true q10⟩⟩⟩)]
        | false =>
          rw [no2 (fun h => by
            rcases h with h | h
            · exact q3' h.2.1
            · rcases h.2.2 with h | h
              · exact q6' h.1
              · exact of_decide_eq_false q10 (hki.1 (h.2.2 x hx)).2)]

/-- Are all steps as said? -/
def StOk (kt : List ByteArray) (kk : List Int) (l : List Wy) : Prop := KnOk kt kk ∧ ∀ i, i < l.length → wyB kt kk l i = true
open Classical in
noncomputable def stB (kt : List ByteArray) (kk : List Int) (l : List Wy) : Bool := decide (StOk kt kk l)
theorem st_t {kt : List ByteArray} {kk : List Int} {l : List Wy} : stB kt kk l = true ↔ StOk kt kk l := by unfold stB; simp
theorem st_no {kt : List ByteArray} {kk : List Int} {l : List Wy} (h : ¬ StOk kt kk l) : stB kt kk l = false := by unfold stB; simp [h]
theorem f40 {H : Hp} {vt vk vl : Value} {kt : List ByteArray} {kk : List Int} {l : List Wy} (ht : SlS H vt kt) (hk : SlI H vk kk) (hl : SlWy H vl l) (hz : ∀ w ∈ l, w.1.size ≤ 4611686018427387904) (hzt : ∀ x ∈ kt, x.size ≤ 4611686018427387904) (hle : l.length ≤ 4611686018427387904) :
    Scal EE 40 [.agg #[vt, vk], vl] H (.bool (stB kt kk l)) := by
  refine scal_ok rfl rfl k40 (by simp [c40]) rfl fun m hw => ?_
  simp only [go_sem, ↓reduceIte, Nat.reduceEqDiff, reduceCtorEq, Nat.reduceAdd, Nat.reduceLeDiff, Nat.reduceMul, c40, ht.vc, hk.vc, hl.len]
  refine go_for l.length (fun i s => s.H = H ∧ s.ρ 1 = .val vl ∧ s.ρ 2 = .bx 0 [vt, vk] ∧ s.ρ 7 = .val (.int .i64 l.length) ∧ s.ρ 8 = .val (.int .i64 i) ∧ ∀ j, j < i → wyB kt kk l j = true)
    (fun s => s.H = H ∧ s.ρ 2 = .bx 0 [vt, vk] ∧ ∀ j, j < l.length → wyB kt kk l j = true) (by simp [upd, ini]) ?_ ?_
  · rintro i s hi ⟨hH, k1, k2, k7, k8, hn⟩
    simp only [go_sem, ↓reduceIte, Nat.reduceEqDiff, reduceCtorEq, Nat.reduceAdd, Nat.reduceLeDiff, Nat.reduceMul, k1, k2, k7, k8]
    refine brT.intro (fun q => ?_) (fun q => ?_) <;> simp only [go_sem, ↓reduceIte, Nat.reduceEqDiff, reduceCtorEq, Nat.reduceAdd, Nat.reduceLeDiff, Nat.reduceMul, k1, k2, k7, k8]
    · have hil : i < l.length := by have := of_decide_eq_true q; omega
      have a76 := fun {m draw t d ts Q} => callT_at (m := m) (draw := draw) (s := t) (d := d) (ts := ts) (Q := Q) (f76 ht hk hl hz hil hle)
      simp only [go_sem, ↓reduceIte, Nat.reduceEqDiff, reduceCtorEq, Nat.reduceAdd, Nat.reduceLeDiff, Nat.reduceMul, k1, k2, k7, k8, ht.vc, hk.vc, a76, hw, hH]
      refine brT.intro (fun q2 => ?_) (fun q2 => ?_) <;> simp only [go_sem, ↓reduceIte, Nat.reduceEqDiff, reduceCtorEq, Nat.reduceAdd, Nat.reduceLeDiff, Nat.reduceMul, k1, k2, k7, k8, wrap64 ((i : Int) + 1) (by omega) (by omega)]
      · refine ⟨hil, by simp, fun j hj => ?_⟩
        by_cases e : j = i
        · subst e; exact q2
        · exact hn j (by omega)
      · rw [st_no (fun h => by rw [h.2 i hil] at q2; cases q2)]
    · exact ⟨hH, fun j hj => hn j (by have := of_decide_eq_false q; omega)⟩
  · rintro s ⟨hH, k2, hall⟩
    have a77 := fun {m draw t d ts Q} => callT_at (m := m) (draw := draw) (s := t) (d := d) (ts := ts) (Q := Q) (f77 ht hk hzt)
    simp only [go_sem, ↓reduceIte, Nat.reduceEqDiff, reduceCtorEq, Nat.reduceAdd, Nat.reduceLeDiff, Nat.reduceMul, k2, ht.vc, hk.vc, a77, hw, hH]
    cases q : knB kt kk with
    | true => rw [st_t.2 ⟨kn_t.1 q, hall⟩]
    | false => rw [st_no (fun h => by rw [kn_t.2 h.1] at q; cases q)]
theorem f37 {H : Hp} {vt vk vl : Value} {kt : List ByteArray} {kk : List Int} {l : List Wy} (ht : SlS H vt kt) (hk : SlI H vk kk) (hl : SlWy H vl l) (hz : ∀ w ∈ l, w.1.size ≤ 4611686018427387904) (hzt : ∀ x ∈ kt, x.size ≤ 4611686018427387904) (hle : l.length ≤ 4611686018427387904) :
    Scal EE 37 [.agg #[vt, vk], vl] H (.bool (stB kt kk l)) := by
  refine scal_ok rfl rfl k37 (by simp [c37]) rfl fun m hw => ?_
  have a49 := fun {m draw t d ts Q} => callT_at (m := m) (draw := draw) (s := t) (d := d) (ts := ts) (Q := Q) (f49 ht hk hzt)
  simp only [go_sem, ↓reduceIte, Nat.reduceEqDiff, reduceCtorEq, Nat.reduceAdd, Nat.reduceLeDiff, Nat.reduceMul, c37, ht.vc, hk.vc, a49, hw]
  cases q0 : knB kt kk <;> simp only [go_sem, ↓reduceIte, Nat.reduceEqDiff, reduceCtorEq, Nat.reduceAdd, Nat.reduceLeDiff, Nat.reduceMul]
  · rw [st_no (fun h => by rw [kn_t.2 h.1] at q0; cases q0)]
  refine go_for l.length (fun i s => s.H = H ∧ s.ρ 1 = .val vl ∧ s.ρ 2 = .bx 0 [vt, vk] ∧ s.ρ 5 = .val (.int .i64 i) ∧ ∀ j, j < i → wyB kt kk l j = true)
    (fun s => s.H = H ∧ ∀ j, j < l.length → wyB kt kk l j = true) (by simp [upd, ini]) ?_ ?_
  · rintro i s hi ⟨hH, k1, k2, k5, hn⟩
    simp only [go_sem, ↓reduceIte, Nat.reduceEqDiff, reduceCtorEq, Nat.reduceAdd, Nat.reduceLeDiff, Nat.reduceMul, k1, k2, k5, hl.len]
    refine brT.intro (fun q => ?_) (fun q => ?_) <;> simp only [go_sem, ↓reduceIte, Nat.reduceEqDiff, reduceCtorEq, Nat.reduceAdd, Nat.reduceLeDiff, Nat.reduceMul, k1, k2, k5]
    · have hil : i < l.length := by have := of_decide_eq_true q; omega
      have a73 := fun {m draw t d ts Q} => callT_at (m := m) (draw := draw) (s := t) (d := d) (ts := ts) (Q := Q) (f73 ht hk hl hz hil hle)
      simp only [go_sem, ↓reduceIte, Nat.reduceEqDiff, reduceCtorEq, Nat.reduceAdd, Nat.reduceLeDiff, Nat.reduceMul, k1, k2, k5, ht.vc, hk.vc, a73, hw, hH]
      refine brT.intro (fun q2 => ?_) (fun q2 => ?_) <;> simp only [go_sem, ↓reduceIte, Nat.reduceEqDiff, reduceCtorEq, Nat.reduceAdd, Nat.reduceLeDiff, Nat.reduceMul, k1, k2, k5, wrap64 ((i : Int) + 1) (by omega) (by omega)]
      · refine ⟨hil, by simp, fun j hj => ?_⟩
        by_cases e : j = i
        · subst e; exact q2
        · exact hn j (by omega)
      · rw [st_no (fun h => by rw [h.2 i hil] at q2; cases q2)]
    · exact ⟨hH, fun j hj => hn j (by have := of_decide_eq_false q; omega)⟩
  · rintro s ⟨hH, hall⟩
    simp only [go_sem, ↓reduceIte, Nat.reduceEqDiff, reduceCtorEq, Nat.reduceAdd, Nat.reduceLeDiff, Nat.reduceMul, hH]
    rw [st_t.2 ⟨kn_t.1 q0, hall⟩]
end Go.Proofs.Ytpdkgbamakileaa.Ev

/- Sizes, copies and comparisons of what is known and of steps; the law StepsOk. -/
namespace Go.Proofs.Ytpdkgbamakileaa.Ev
set_option linter.all false
open Go
set_option maxRecDepth 4000

theorem f72 {H : Hp} {z : Wy} {left : Int} (h0 : 0 ≤ left) (h1 : left ≤ 1048576) (hz : z.1.size ≤ 9223372036854775807) : Scal EE 72 [vWy z, .int .i64 left] H (.int .i64 (szI z.1.size left)) := by
  refine scal_ok rfl rfl k72 (by simp [c72]) rfl fun m hw => ?_
  unfold vWy
  simp only [go_sem, ↓reduceIte, Nat.reduceEqDiff, reduceCtorEq, Nat.reduceAdd, Nat.reduceLeDiff, Nat.reduceMul, c72, lenTK, wrap64 (left - (z.1.size : Int)) (by omega) (by omega)]
  refine brT.intro (fun h2 => ?_) (fun h2 => ?_) <;> simp only [go_sem, ↓reduceIte, Nat.reduceEqDiff, reduceCtorEq, Nat.reduceAdd, Nat.reduceLeDiff, Nat.reduceMul]
  · simp at h2
    simp [szI, h2]
  · simp at h2
    unfold szI
    rw [if_neg (by omega)]

theorem f75 {H : Hp} {z : Wy} : Scal EE 75 [vWy z] H (vWy z) := by
  refine scal_ok rfl rfl k75 (by simp [c75]) rfl fun m hw => ?_
  unfold vWy
  simp only [go_sem, ↓reduceIte, Nat.reduceEqDiff, reduceCtorEq, Nat.reduceAdd, Nat.reduceLeDiff, Nat.reduceMul, c75]

theorem c72' {m : Md} {draw : Bool} {s : St} {d : Option Nat} {ts : List Tk} {Q : Ex → St → Prop} {a b : Int} {x : ByteArray} {left : Int} (h0 : 0 ≤ left) (h1 : left ≤ 1048576) (hz : x.size ≤ 9223372036854775807) (hw : Wr m s.H) :
    callT EE m draw 72 (some [.agg #[.string x, .int .i64 a, .int .i64 b], .int .i64 left]) s d ts Q = go EE m ts { s with ρ := upd s.ρ d (.val (.int .i64 (szI x.size left))) } Q := callT_at (f72 (z := (x, a, b)) h0 h1 hz) rfl hw
theorem c75' {m : Md} {draw : Bool} {s : St} {d : Option Nat} {ts : List Tk} {Q : Ex → St → Prop} {a b : Int} {x : ByteArray} (hw : Wr m s.H) :
    callT EE m draw 75 (some [.agg #[.string x, .int .i64 a, .int .i64 b]]) s d ts Q = go EE m ts { s with ρ := upd s.ρ d (.val (.agg #[.string x, .int .i64 a, .int .i64 b])) } Q := callT_at (f75 (z := (x, a, b))) rfl hw

theorem f36 {H : Hp} {v : Value} {l : List Wy} {left : Int} (hl : SlWy H v l) (hz : ∀ z ∈ l, z.1.size ≤ 9223372036854775807) (h0 : 0 ≤ left) (h1 : left ≤ 1048576) :
    ScalP EE 36 [v, .int .i64 left] H fun r => ∃ n : Int, r = .int .i64 n ∧ (0 ≤ n → l.length ≤ 1048576 ∧ ∀ z ∈ l, z.1.size ≤ 1048576) := by
  refine scalP_ok rfl rfl k36 (by simp [c36]) fun m hw => ?_
  have hroom := hl.room
  simp only [go_sem, ↓reduceIte, Nat.reduceEqDiff, reduceCtorEq, Nat.reduceAdd, Nat.reduceLeDiff, Nat.reduceMul, c36, hl.len, wrap64 (left - (l.length : Int)) (by omega) (by omega)]
  refine brT.intro (fun q1 => ?_) (fun q1 => ?_) <;> simp only [go_sem, ↓reduceIte, Nat.reduceEqDiff, reduceCtorEq, Nat.reduceAdd, Nat.reduceLeDiff, Nat.reduceMul]
  · exact ⟨-1, rfl, fun h => by omega⟩
  have q1' := of_decide_eq_false q1
  refine go_for l.length (fun i s => s.H = H ∧ s.ρ 0 = .val v ∧ s.ρ 5 = .val (.int .i64 i) ∧ (∃ n : Int, s.ρ 1 = .val (.int .i64 n) ∧ 0 ≤ n ∧ n ≤ 1048576) ∧ ∀ z ∈ l.take i, z.1.size ≤ 1048576)
    (fun s => s.H = H ∧ (∃ n : Int, s.ρ 1 = .val (.int .i64 n) ∧ 0 ≤ n ∧ n ≤ 1048576) ∧ ∀ z ∈ l, z.1.size ≤ 1048576) ?_ ?_ ?_
  · exact ⟨rfl, by simp [upd, ini], by simp [upd], ⟨_, by simp [upd]; rfl, by omega, by omega⟩, by simp⟩
  · rintro i s hi ⟨hH, k0, k5, ⟨n, k1, hn0, hn1⟩, hk⟩
    simp only [go_sem, ↓reduceIte, Nat.reduceEqDiff, reduceCtorEq, Nat.reduceAdd, Nat.reduceLeDiff, Nat.reduceMul, k0, k1, k5, hl.len]
    refine brT.intro (fun c1 => ?_) (fun c1 => ?_) <;> simp only [go_sem, ↓reduceIte, Nat.reduceEqDiff, reduceCtorEq, Nat.reduceAdd, Nat.reduceLeDiff, Nat.reduceMul, k0, k1, k5]
    · have hil : i < l.length := by have := of_decide_eq_true c1; omega
      have hzi := hz _ (List.getElem_mem hil)
      obtain ⟨id, p, o, ho, hr, hp, hia⟩ := hl.elem (List.getElem?_eq_getElem hil)
      unfold En at hr
      simp only [go_sem, ↓reduceIte, Nat.reduceEqDiff, reduceCtorEq, Nat.reduceAdd, Nat.reduceLeDiff, Nat.reduceMul, k0, k1, k5, hia, hH, ho, hr, hp, eWy, c72' hn0 hn1 hzi, hw]
      refine brT.intro (fun c2 => ?_) (fun c2 => ?_) <;> simp only [go_sem, ↓reduceIte, Nat.reduceEqDiff, reduceCtorEq, Nat.reduceAdd, Nat.reduceLeDiff, Nat.reduceMul, k0, k1, k5, wrap64 ((i : Int) + 1) (by omega) (by omega)]
      · exact ⟨-1, rfl, fun h => by omega⟩
      · have c2' := of_decide_eq_false c2
        have hsz : (l[i]).1.size ≤ 1048576 := by unfold szI at c2'; split at c2' <;> omega
        refine ⟨hil, by simp, ⟨_, rfl, by omega, by unfold szI; split <;> omega⟩, fun z hz' => ?_⟩
        rw [List.take_succ_eq_append_getElem hil] at hz'
        rcases List.mem_append.1 hz' with h | h
        · exact hk z h
        · rw [List.mem_singleton] at h
          subst h
          exact hsz
    · have : i = l.length := by have := of_decide_eq_false c1; omega
      subst this
      rw [List.take_length] at hk
      exact ⟨hH, ⟨n, rfl, hn0, hn1⟩, hk⟩
  · rintro s ⟨hH, ⟨n, k1, hn0, hn1⟩, hk⟩
    simp only [go_sem, ↓reduceIte, Nat.reduceEqDiff, reduceCtorEq, Nat.reduceAdd, Nat.reduceLeDiff, Nat.reduceMul, k1, hH]
    exact ⟨n, rfl, fun _ => ⟨by omega, hk⟩⟩

theorem f39 {m : Md} {H : Hp} {v : Value} {l : List Wy} (hl : SlWy H v l) (hle : l.length ≤ 1048576) (hw : Wr m H) : Fun EE m 39 [v] H fun r H' => FreshS eWy 3 H r H' l := by
  refine fun_f rfl rfl k39 (by simp [c39]) ?_
  obtain ⟨g1, g2⟩ := make_sl (R := En eWy) (esz := 3) (H := H) (z := (⟨#[]⟩, 0, 0)) (zero := [.string ⟨#[]⟩, .int .i64 0, .int .i64 0]) (n := l.length) (bytes := 32) rfl rfl (by unfold room; omega) (by unfold room; omega)
  generalize hsv : (Value.slice (some ⟨H.length, 0, some 3⟩) l.length (l.length * 3)) = sv at g1 g2
  have hown : OwnS H.length sv := .inr ⟨_, _, _, _, hsv.symm, Nat.le_refl _⟩
  have hids : idsOf sv = [H.length] := by rw [← hsv]; rfl
  have hwid : m.wr H.length = true := hw _ (Nat.le_refl _)
  simp only [go_sem, ↓reduceIte, Nat.reduceEqDiff, reduceCtorEq, Nat.reduceAdd, Nat.reduceLeDiff, Nat.reduceMul, c39, hl.len]
  rw [g2 _ _ _ rfl rfl rfl]
  simp only [go_sem, ↓reduceIte, Nat.reduceEqDiff, reduceCtorEq, Nat.reduceAdd, Nat.reduceLeDiff, Nat.reduceMul]
  refine go_for l.length (fun i s => H <+: s.H ∧ s.ρ 0 = .val v ∧ s.ρ 3 = .val sv ∧ s.ρ 4 = .val (.int .i64 i) ∧ SlWy s.H sv (l.take i ++ List.replicate (l.length - i) (⟨#[]⟩, 0, 0)))
    (fun s => H <+: s.H ∧ s.ρ 3 = .val sv ∧ SlWy s.H sv l) ?_ ?_ ?_
  · exact ⟨List.prefix_append _ _, by simp [upd, ini], by simp [upd], by simp [upd], by simpa using g1⟩
  · rintro i s hi ⟨hH, h0, h3, h4, hs⟩
    have hl' := hl.pre hH
    have hw' := hw.pre hH
    simp only [go_sem, ↓reduceIte, Nat.reduceEqDiff, reduceCtorEq, Nat.reduceAdd, Nat.reduceLeDiff, Nat.reduceMul, h0, h3, h4, hl'.len]
    refine brT.intro (fun h1 => ?_) (fun h1 => ?_) <;> simp only [go_sem, ↓reduceIte, Nat.reduceEqDiff, reduceCtorEq, Nat.reduceAdd, Nat.reduceLeDiff, Nat.reduceMul, h0, h3, h4]
    · have h2 : i < l.length := by simpa using h1
      obtain ⟨id, p, o, ho, hr, hp, hia⟩ := hl'.elem (List.getElem?_eq_getElem h2)
      unfold En at hr
      obtain ⟨id2, p2, o2, ho2, hp2, hid, hia2, hst⟩ := hs.store (i := i) (by simp; omega)
      have hid' : id2 = H.length := by rw [hids] at hid; simpa using hid.symm
      subst hid'
      simp only [go_sem, ↓reduceIte, Nat.reduceEqDiff, reduceCtorEq, Nat.reduceAdd, Nat.reduceLeDiff, Nat.reduceMul, h0, h3, h4, hia, ho, hr, hp, eWy, c75', hw', hia2, ho2, hp2, hwid, wrap64 ((i : Int) + 1) (by omega) (by omega)]
      refine ⟨h2, pre_set hH (Nat.le_refl _), by simp, ?_⟩
      have := hst l[i] (eWy l[i]) rfl rfl
      rw [List.take_succ_eq_append_getElem h2, List.append_assoc, List.singleton_append]
      rw [List.set_append_right _ _ (by simp; omega), show i - (l.take i).length = 0 by simp; omega, show l.length - i = (l.length - (i + 1)) + 1 by omega, List.replicate_succ, List.set_cons_zero] at this
      exact this
    · have h2 : ¬ i < l.length := by simpa using h1
      rw [List.take_of_length_le (by omega), show l.length - i = 0 by omega] at hs
      simp only [List.replicate_zero, List.append_nil] at hs
      exact ⟨hH, hs⟩
  · rintro s ⟨hH, h3, hs⟩
    simp only [go_sem, ↓reduceIte, Nat.reduceEqDiff, reduceCtorEq, Nat.reduceAdd, Nat.reduceLeDiff, Nat.reduceMul, h3]
    exact ⟨hH, hs, hown⟩
theorem f79 {H : Hp} {a b : Wy} : Scal EE 79 [vWy a, vWy b] H (.bool (decide (a = b))) := by
  refine scal_ok rfl rfl k79 (by simp [c79]) rfl fun m hw => ?_
  obtain ⟨a1, a2, a3⟩ := a
  obtain ⟨b1, b2, b3⟩ := b
  unfold vWy
  simp only [go_sem, ↓reduceIte, Nat.reduceEqDiff, reduceCtorEq, Nat.reduceAdd, Nat.reduceLeDiff, Nat.reduceMul, c79]
  refine brT.intro (fun h1 => ?_) (fun h1 => ?_) <;> simp only [go_sem, ↓reduceIte, Nat.reduceEqDiff, reduceCtorEq, Nat.reduceAdd, Nat.reduceLeDiff, Nat.reduceMul]
  · have h1 := of_decide_eq_true h1
    refine brT.intro (fun h2 => ?_) (fun h2 => ?_) <;> simp only [go_sem, ↓reduceIte, Nat.reduceEqDiff, reduceCtorEq, Nat.reduceAdd, Nat.reduceLeDiff, Nat.reduceMul]
    · have h2 := of_decide_eq_true h2
      refine brT.intro (fun h3 => ?_) (fun h3 => ?_) <;> simp only [go_sem, ↓reduceIte, Nat.reduceEqDiff, reduceCtorEq, Nat.reduceAdd, Nat.reduceLeDiff, Nat.reduceMul]
      · have h3 := of_decide_eq_true h3
        simp [h1, h2, h3]
      · have h3 := of_decide_eq_false h3
        simp [h3]
    · have h2 := of_decide_eq_false h2
      simp [h2]
  · have h1 := of_decide_eq_false h1
    simp [h1]
theorem c79' {m : Md} {draw : Bool} {s : St} {d : Option Nat} {ts : List Tk} {Q : Ex → St → Prop} {a b a' b' : Int} {x x' : ByteArray} (hw : Wr m s.H) :
    callT EE m draw 79 (some [.agg #[.string x, .int .i64 a, .int .i64 b], .agg #[.string x', .int .i64 a', .int .i64 b']]) s d ts Q = go EE m ts { s with ρ := upd s.ρ d (.val (.bool (decide ((x, a, b) = (x', a', b'))))) } Q := callT_at (f79 (a := (x, a, b)) (b := (x', a', b'))) rfl hw

theorem f42 {H : Hp} {v u : Value} {l k : List Wy} (hl : SlWy H v l) (hk : SlWy H u k) : Scal EE 42 [v, u] H (.bool (decide (l = k))) := by
  refine scal_ok rfl rfl k42 (by simp [c42]) rfl fun m hw => ?_
  have hroom := hl.room
  simp only [go_sem, ↓reduceIte, Nat.reduceEqDiff, reduceCtorEq, Nat.reduceAdd, Nat.reduceLeDiff, Nat.reduceMul, c42, hl.len, hk.len]
  refine brT.intro (fun h1 => ?_) (fun h1 => ?_) <;> simp only [go_sem, ↓reduceIte, Nat.reduceEqDiff, reduceCtorEq, Nat.reduceAdd, Nat.reduceLeDiff, Nat.reduceMul]
  · have hlen : l.length = k.length := by simp at h1; omega
    refine go_for l.length (fun i s => s.H = H ∧ s.ρ 0 = .val v ∧ s.ρ 1 = .val u ∧ s.ρ 5 = .val (.int .i64 i) ∧ l.take i = k.take i) (fun s => s.H = H ∧ l = k) (by simp [upd, ini]) ?_ ?_
    · rintro i s hi ⟨hH, h0, h1, h5, hn⟩
      simp only [go_sem, ↓reduceIte, Nat.reduceEqDiff, reduceCtorEq, Nat.reduceAdd, Nat.reduceLeDiff, Nat.reduceMul, h0, h1, h5, hl.len]
      refine brT.intro (fun h2 => ?_) (fun h2 => ?_) <;> simp only [go_sem, ↓reduceIte, Nat.reduceEqDiff, reduceCtorEq, Nat.reduceAdd, Nat.reduceLeDiff, Nat.reduceMul, h0, h1, h5]
      · have h3 : i < l.length := by simpa using h2
        have h4 : i < k.length := by omega
        obtain ⟨id, p, o, ho, hr, hp, hia⟩ := hl.elem (List.getElem?_eq_getElem h3)
        obtain ⟨id2, p2, o2, ho2, hr2, hp2, hia2⟩ := hk.elem (List.getElem?_eq_getElem h4)
        unfold En at hr hr2
        refine go_draw ?_
        simp only [go_sem, ↓reduceIte, Nat.reduceEqDiff, reduceCtorEq, Nat.reduceAdd, Nat.reduceLeDiff, Nat.reduceMul, h0, h1, h5, hia, hH, ho, hr, hp, hia2, ho2, hr2, hp2, eWy, c79', hw]
        refine ⟨by rfl, brT.intro (fun h6 => ?_) (fun h6 => ?_)⟩ <;> simp only [go_sem, ↓reduceIte, Nat.reduceEqDiff, reduceCtorEq, Nat.reduceAdd, Nat.reduceLeDiff, Nat.reduceMul, h0, h1, h5, wrap64 ((i : Int) + 1) (by omega) (by omega)]
        · refine ⟨h3, by simp, ?_⟩
          rw [List.take_succ_eq_append_getElem h3, List.take_succ_eq_append_getElem h4, hn]
          have : l[i] = k[i] := of_decide_eq_true h6
          rw [this]
        · have : ¬ l[i] = k[i] := of_decide_eq_false h6
          have : ¬ l = k := fun e => by subst e; exact this rfl
          simp [this]
      · have h3 : ¬ i < l.length := by simpa using h2
        rw [List.take_of_length_le (by omega), List.take_of_length_le (by omega)] at hn
        exact ⟨hH, hn⟩
    · rintro s ⟨hH, hn⟩
      simp only [go_sem, ↓reduceIte, Nat.reduceEqDiff, reduceCtorEq, Nat.reduceAdd, Nat.reduceLeDiff, Nat.reduceMul, hH, hn]
  · have : ¬ l = k := fun e => by subst e; simp at h1
    simp [this]

theorem f26b {H : Hp} {v : Value} {l : List ByteArray} {left : Int} (hl : SlS H v l) (hz : ∀ z ∈ l, z.size ≤ 9223372036854775807) (h0 : 0 ≤ left) (h1 : left ≤ 1048576) :
    ScalP EE 26 [v, .int .i64 left] H fun r => ∃ n : Int, r = .int .i64 n ∧ (0 ≤ n → n ≤ 1048576 ∧ l.length ≤ 1048576 ∧ ∀ z ∈ l, z.size ≤ 1048576) := by
  refine scalP_ok rfl rfl k26 (by simp [c26]) fun m hw => ?_
  have hroom := hl.room
  simp only [go_sem, ↓reduceIte, Nat.reduceEqDiff, reduceCtorEq, Nat.reduceAdd, Nat.reduceLeDiff, Nat.reduceMul, c26, hl.len, wrap64 (left - (l.length : Int)) (by omega) (by omega)]
  refine brT.intro (fun q1 => ?_) (fun q1 => ?_) <;> simp only [go_sem, ↓reduceIte, Nat.reduceEqDiff, reduceCtorEq, Nat.reduceAdd, Nat.reduceLeDiff, Nat.reduceMul]
  · exact ⟨-1, rfl, fun h => by omega⟩
  have q1' := of_decide_eq_false q1
  refine go_for l.length (fun i s => s.H = H ∧ s.ρ 0 = .val v ∧ s.ρ 5 = .val (.int .i64 i) ∧ (∃ n : Int, s.ρ 1 = .val (.int .i64 n) ∧ 0 ≤ n ∧ n ≤ 1048576) ∧ ∀ z ∈ l.take i, z.size ≤ 1048576)
    (fun s => s.H = H ∧ (∃ n : Int, s.ρ 1 = .val (.int .i64 n) ∧ 0 ≤ n ∧ n ≤ 1048576) ∧ ∀ z ∈ l, z.size ≤ 1048576) ?_ ?_ ?_
  · exact ⟨rfl, by simp [upd, ini], by simp [upd], ⟨_, by simp [upd]; rfl, by omega, by omega⟩, by simp⟩
  · rintro i s hi ⟨hH, k0, k5, ⟨n, k1, hn0, hn1⟩, hk⟩
    simp only [go_sem, ↓reduceIte, Nat.reduceEqDiff, reduceCtorEq, Nat.reduceAdd, Nat.reduceLeDiff, Nat.reduceMul, k0, k1, k5, hl.len]
    refine brT.intro (fun c1 => ?_) (fun c1 => ?_) <;> simp only [go_sem, ↓reduceIte, Nat.reduceEqDiff, reduceCtorEq, Nat.reduceAdd, Nat.reduceLeDiff, Nat.reduceMul, k0, k1, k5]
    · have hil : i < l.length := by have := of_decide_eq_true c1; omega
      have hzi := hz _ (List.getElem_mem hil)
      obtain ⟨id, p, o, ho, hr, hia⟩ := hl.str (List.getElem?_eq_getElem hil)
      have wsz := wrap64 (n - (l[i].size : Int)) (by omega) (by omega)
      simp only [go_sem, ↓reduceIte, Nat.reduceEqDiff, reduceCtorEq, Nat.reduceAdd, Nat.reduceLeDiff, Nat.reduceMul, k0, k1, k5, hia, hH, ho, hr, lenTK, wsz]
      refine brT.intro (fun c2 => ?_) (fun c2 => ?_) <;> simp only [go_sem, ↓reduceIte, Nat.reduceEqDiff, reduceCtorEq, Nat.reduceAdd, Nat.reduceLeDiff, Nat.reduceMul, k0, k1, k5, wrap64 ((i : Int) + 1) (by omega) (by omega)]
      · exact ⟨-1, rfl, fun h => by omega⟩
      · have c2' := of_decide_eq_false c2
        refine ⟨hil, by simp, ⟨_, rfl, by omega, by omega⟩, fun z hz' => ?_⟩
        rw [List.take_succ_eq_append_getElem hil] at hz'
        rcases List.mem_append.1 hz' with h | h
        · exact hk z h
        · rw [List.mem_singleton] at h
          subst h
          omega
    · have : i = l.length := by have := of_decide_eq_false c1; omega
      subst this
      rw [List.take_length] at hk
      exact ⟨hH, ⟨n, rfl, hn0, hn1⟩, hk⟩
  · rintro s ⟨hH, ⟨n, k1, hn0, hn1⟩, hk⟩
    simp only [go_sem, ↓reduceIte, Nat.reduceEqDiff, reduceCtorEq, Nat.reduceAdd, Nat.reduceLeDiff, Nat.reduceMul, k1, hH]
    exact ⟨n, rfl, fun _ => ⟨hn1, by omega, hk⟩⟩

theorem f74 {m : Md} {H : Hp} {v : Value} {l : List Int} (hl : SlI H v l) (hle : l.length ≤ 1048576) (hw : Wr m H) : Fun EE m 74 [v] H fun r H' => FreshS eI 1 H r H' l := by
  refine fun_f rfl rfl k74 (by simp [c74]) ?_
  obtain ⟨g1, g2⟩ := make_sl (R := En eI) (esz := 1) (H := H) (z := (0 : Int)) (zero := [.int .i64 0]) (n := l.length) (bytes := 8) rfl rfl (by unfold room; omega) (by unfold room; omega)
  generalize hsv : (Value.slice (some ⟨H.length, 0, some 1⟩) l.length (l.length * 1)) = sv at g1 g2
  have hown : OwnS H.length sv := .inr ⟨_, _, _, _, hsv.symm, Nat.le_refl _⟩
  have hids : idsOf sv = [H.length] := by rw [← hsv]; rfl
  have hwid : m.wr H.length = true := hw _ (Nat.le_refl _)
  simp only [go_sem, ↓reduceIte, Nat.reduceEqDiff, reduceCtorEq, Nat.reduceAdd, Nat.reduceLeDiff, Nat.reduceMul, c74, hl.len]
  rw [g2 _ _ _ rfl rfl rfl]
  simp only [go_sem, ↓reduceIte, Nat.reduceEqDiff, reduceCtorEq, Nat.reduceAdd, Nat.reduceLeDiff, Nat.reduceMul]
  refine go_for l.length (fun i s => H <+: s.H ∧ s.ρ 0 = .val v ∧ s.ρ 3 = .val sv ∧ s.ρ 4 = .val (.int .i64 i) ∧ SlI s.H sv (l.take i ++ List.replicate (l.length - i) (0 : Int)))
    (fun s => H <+: s.H ∧ s.ρ 3 = .val sv ∧ SlI s.H sv l) ?_ ?_ ?_
  · exact ⟨List.prefix_append _ _, by simp [upd, ini], by simp [upd], by simp [upd], by simpa using g1⟩
  · rintro i s hi ⟨hH, h0, h3, h4, hs⟩
    have hl' := hl.pre hH
    have hw' := hw.pre hH
    simp only [go_sem, ↓reduceIte, Nat.reduceEqDiff, reduceCtorEq, Nat.reduceAdd, Nat.reduceLeDiff, Nat.reduceMul, h0, h3, h4, hl'.len]
    refine brT.intro (fun h1 => ?_) (fun h1 => ?_) <;> simp only [go_sem, ↓reduceIte, Nat.reduceEqDiff, reduceCtorEq, Nat.reduceAdd, Nat.reduceLeDiff, Nat.reduceMul, h0, h3, h4]
    · have h2 : i < l.length := by simpa using h1
      obtain ⟨id, p, o, ho, hr, hia⟩ := hl'.int (List.getElem?_eq_getElem h2)
      obtain ⟨id2, p2, o2, ho2, hp2, hid, hia2, hst⟩ := hs.store (i := i) (by simp; omega)
      have hid' : id2 = H.length := by rw [hids] at hid; simpa using hid.symm
      subst hid'
      simp only [go_sem, ↓reduceIte, Nat.reduceEqDiff, reduceCtorEq, Nat.reduceAdd, Nat.reduceLeDiff, Nat.reduceMul, h0, h3, h4, hia, ho, hr, hia2, ho2, hp2, hwid, wrap64 ((i : Int) + 1) (by omega) (by omega)]
      refine ⟨h2, pre_set hH (Nat.le_refl _), by simp, ?_⟩
      have := hst l[i] (eI l[i]) rfl rfl
      rw [List.take_succ_eq_append_getElem h2, List.append_assoc, List.singleton_append]
      rw [List.set_append_right _ _ (by simp; omega), show i - (l.take i).length = 0 by simp; omega, show l.length - i = (l.length - (i + 1)) + 1 by omega, List.replicate_succ, List.set_cons_zero] at this
      exact this
    · have h2 : ¬ i < l.length := by simpa using h1
      rw [List.take_of_length_le (by omega), show l.length - i = 0 by omega] at hs
      simp only [List.replicate_zero, List.append_nil] at hs
      exact ⟨hH, hs⟩
  · rintro s ⟨hH, h3, hs⟩
    simp only [go_sem, ↓reduceIte, Nat.reduceEqDiff, reduceCtorEq, Nat.reduceAdd, Nat.reduceLeDiff, Nat.reduceMul, h3]
    exact ⟨hH, hs, hown⟩

theorem f78 {H : Hp} {v u : Value} {l k : List Int} (hl : SlI H v l) (hk : SlI H u k) : Scal EE 78 [v, u] H (.bool (decide (l = k))) := by
  refine scal_ok rfl rfl k78 (by simp [c78]) rfl fun m hw => ?_
  have hroom := hl.room
  simp only [go_sem, ↓reduceIte, Nat.reduceEqDiff, reduceCtorEq, Nat.reduceAdd, Nat.reduceLeDiff, Nat.reduceMul, c78, hl.len, hk.len]
  refine brT.intro (fun h1 => ?_) (fun h1 => ?_) <;> simp only [go_sem, ↓reduceIte, Nat.reduceEqDiff, reduceCtorEq, Nat.reduceAdd, Nat.reduceLeDiff, Nat.reduceMul]
  · have hlen : l.length = k.length := by simp at h1; omega
    refine go_for l.length (fun i s => s.H = H ∧ s.ρ 0 = .val v ∧ s.ρ 1 = .val u ∧ s.ρ 5 = .val (.int .i64 i) ∧ l.take i = k.take i) (fun s => s.H = H ∧ l = k) (by simp [upd, ini]) ?_ ?_
    · rintro i s hi ⟨hH, h0, h1, h5, hn⟩
      simp only [go_sem, ↓reduceIte, Nat.reduceEqDiff, reduceCtorEq, Nat.reduceAdd, Nat.reduceLeDiff, Nat.reduceMul, h0, h1, h5, hl.len]
      refine brT.intro (fun h2 => ?_) (fun h2 => ?_) <;> simp only [go_sem, ↓reduceIte, Nat.reduceEqDiff, reduceCtorEq, Nat.reduceAdd, Nat.reduceLeDiff, Nat.reduceMul, h0, h1, h5]
      · have h3 : i < l.length := by simpa using h2
        have h4 : i < k.length := by omega
        obtain ⟨id, p, o, ho, hr, hia⟩ := hl.int (List.getElem?_eq_getElem h3)
        obtain ⟨id2, p2, o2, ho2, hr2, hia2⟩ := hk.int (List.getElem?_eq_getElem h4)
        refine go_draw ?_
        simp only [go_sem, ↓reduceIte, Nat.reduceEqDiff, reduceCtorEq, Nat.reduceAdd, Nat.reduceLeDiff, Nat.reduceMul, h0, h1, h5, hia, hH, ho, hr, hia2, ho2, hr2, hw]
        refine ⟨by rfl, brT.intro (fun h6 => ?_) (fun h6 => ?_)⟩ <;> simp only [go_sem, ↓reduceIte, Nat.reduceEqDiff, reduceCtorEq, Nat.reduceAdd, Nat.reduceLeDiff, Nat.reduceMul, h0, h1, h5, wrap64 ((i : Int) + 1) (by omega) (by omega)]
        · refine ⟨h3, by simp, ?_⟩
          rw [List.take_succ_eq_append_getElem h3, List.take_succ_eq_append_getElem h4, hn]
          have : l[i] = k[i] := of_decide_eq_true h6
          rw [this]
        · have : ¬ l[i] = k[i] := of_decide_eq_false h6
          have : ¬ l = k := fun e => by subst e; exact this rfl
          simp [this]
      · have h3 : ¬ i < l.length := by simpa using h2
        rw [List.take_of_length_le (by omega), List.take_of_length_le (by omega)] at hn
        exact ⟨hH, hn⟩
    · rintro s ⟨hH, hn⟩
      simp only [go_sem, ↓reduceIte, Nat.reduceEqDiff, reduceCtorEq, Nat.reduceAdd, Nat.reduceLeDiff, Nat.reduceMul, hH, hn]
  · have : ¬ l = k := fun e => by subst e; simp at h1
    simp [this]


/-- Rows as long as before. -/
theorem f71 {H : Hp} {v : Value} {l : List Int} {left : Int} (hl : SlI H v l) (h0 : 0 ≤ left) (h1 : left ≤ 1048576) : ScalP EE 71 [v, .int .i64 left] H fun r => ∃ n : Int, r = .int .i64 n ∧ (0 ≤ n → n ≤ 1048576 ∧ l.length ≤ 1048576) := by
  refine scalP_ok rfl rfl k71 (by simp [c71]) fun m hw => ?_
  have hroom := hl.room
  simp only [go_sem, ↓reduceIte, Nat.reduceEqDiff, reduceCtorEq, Nat.reduceAdd, Nat.reduceLeDiff, Nat.reduceMul, c71, hl.len, wrap64 (left - (l.length : Int)) (by omega) (by omega)]
  refine brT.intro (fun q1 => ?_) (fun q1 => ?_) <;> simp only [go_sem, ↓reduceIte, Nat.reduceEqDiff, reduceCtorEq, Nat.reduceAdd, Nat.reduceLeDiff, Nat.reduceMul]
  · exact ⟨-1, rfl, fun h => by omega⟩
  · have := of_decide_eq_false q1
    exact ⟨_, rfl, fun h => ⟨by omega, by omega⟩⟩
theorem f35 {H : Hp} {vt vk : Value} {kt : List ByteArray} {kk : List Int} {left : Int} (ht : SlS H vt kt) (hk : SlI H vk kk) (hz : ∀ z ∈ kt, z.size ≤ 9223372036854775807) (h0 : 0 ≤ left) (h1 : left ≤ 1048576) :
    ScalP EE 35 [.agg #[vt, vk], .int .i64 left] H fun r => ∃ n : Int, r = .int .i64 n ∧ (0 ≤ n → n ≤ 1048576 ∧ kt.length ≤ 1048576 ∧ (∀ z ∈ kt, z.size ≤ 1048576) ∧ kk.length ≤ 1048576) := by
  refine scalP_ok rfl rfl k35 (by simp [c35]) fun m hw => ?_
  simp only [go_sem, ↓reduceIte, Nat.reduceEqDiff, reduceCtorEq, Nat.reduceAdd, Nat.reduceLeDiff, Nat.reduceMul, c35, ht.vc, hk.vc]
  refine callT_to (fun m' h => f26b ht hz h0 h1 m' h) rfl hw fun r H' ⟨⟨n, e, hn⟩, e2⟩ => ?_
  subst e; subst e2
  simp only [go_sem, ↓reduceIte, Nat.reduceEqDiff, reduceCtorEq, Nat.reduceAdd, Nat.reduceLeDiff, Nat.reduceMul, ht.vc, hk.vc]
  refine brT.intro (fun q1 => ?_) (fun q1 => ?_) <;> simp only [go_sem, ↓reduceIte, Nat.reduceEqDiff, reduceCtorEq, Nat.reduceAdd, Nat.reduceLeDiff, Nat.reduceMul, ht.vc, hk.vc]
  · exact ⟨-1, rfl, fun h => by omega⟩
  have q1' := of_decide_eq_false q1
  obtain ⟨a1, a2, a3⟩ := hn (by omega)
  refine callT_to (fun m' h => f71 hk (by omega) a1 m' h) rfl hw fun r H' ⟨⟨n2, e, hn2⟩, e2⟩ => ?_
  subst e; subst e2
  simp only [go_sem, ↓reduceIte, Nat.reduceEqDiff, reduceCtorEq, Nat.reduceAdd, Nat.reduceLeDiff, Nat.reduceMul]
  refine brT.intro (fun q2 => ?_) (fun q2 => ?_) <;> simp only [go_sem, ↓reduceIte, Nat.reduceEqDiff, reduceCtorEq, Nat.reduceAdd, Nat.reduceLeDiff, Nat.reduceMul]
  · exact ⟨-1, rfl, fun h => by omega⟩
  · exact ⟨_, rfl, fun h => ⟨(hn2 h).1, a2, a3, (hn2 h).2⟩⟩
/-- A copy of what is known. -/
theorem f38 {m : Md} {H : Hp} {vt vk : Value} {kt : List ByteArray} {kk : List Int} (ht : SlS H vt kt) (hk : SlI H vk kk) (h1 : kt.length ≤ 1048576) (h2 : kk.length ≤ 1048576) (hw : Wr m H) :
    Fun EE m 38 [.agg #[vt, vk]] H fun r H' => ∃ ut uk, r = .agg #[ut, uk] ∧ H <+: H' ∧ SlS H' ut kt ∧ SlI H' uk kk := by
  refine fun_f rfl rfl k38 (by simp [c38]) ?_
  simp only [go_sem, ↓reduceIte, Nat.reduceEqDiff, reduceCtorEq, Nat.reduceAdd, Nat.reduceLeDiff, Nat.reduceMul, c38, ht.vc, hk.vc]
  refine callT_to (fun m' h => f28 ht h1 h) rfl hw fun r1 H1 ⟨p1, s1, o1⟩ => ?_
  have w1 := hw.pre p1
  have k1 := hk.pre p1
  simp only [go_sem, ↓reduceIte, Nat.reduceEqDiff, reduceCtorEq, Nat.reduceAdd, Nat.reduceLeDiff, Nat.reduceMul, ht.vc, hk.vc, s1.vc]
  refine callT_to (fun m' h => f74 k1 h2 h) rfl w1 fun r2 H2 ⟨p2, s2, o2⟩ => ?_
  have s12 := s1.pre p2
  simp only [go_sem, ↓reduceIte, Nat.reduceEqDiff, reduceCtorEq, Nat.reduceAdd, Nat.reduceLeDiff, Nat.reduceMul, s12.vc, s2.vc]
  exact ⟨_, _, rfl, p1.trans p2, s12, s2⟩
theorem f41 {H : Hp} {vt vk ut uk : Value} {kt lt : List ByteArray} {kk lk : List Int} (ht : SlS H vt kt) (hk : SlI H vk kk) (ht2 : SlS H ut lt) (hk2 : SlI H uk lk) : Scal EE 41 [.agg #[vt, vk], .agg #[ut, uk]] H (.bool (decide (kt = lt ∧ kk = lk))) := by
  refine scal_ok rfl rfl k41 (by simp [c41]) rfl fun m hw => ?_
  have a21 := fun {m draw t d ts Q} => callT_at (m := m) (draw := draw) (s := t) (d := d) (ts := ts) (Q := Q) (f21 ht ht2)
  have a78 := fun {m draw t d ts Q} => callT_at (m := m) (draw := draw) (s := t) (d := d) (ts := ts) (Q := Q) (f78 hk hk2)
  simp only [go_sem, ↓reduceIte, Nat.reduceEqDiff, reduceCtorEq, Nat.reduceAdd, Nat.reduceLeDiff, Nat.reduceMul, c41, ht.vc, hk.vc, ht2.vc, hk2.vc, a21, hw]
  by_cases h1 : kt = lt
  · rw [decide_eq_true h1]
    simp only [go_sem, ↓reduceIte, Nat.reduceEqDiff, reduceCtorEq, Nat.reduceAdd, Nat.reduceLeDiff, Nat.reduceMul, ht.vc, hk.vc, ht2.vc, hk2.vc, a78, hw]
    by_cases h2 : kk = lk
    · rw [decide_eq_true h2, decide_eq_true ⟨h1, h2⟩]
      simp only [go_sem, ↓reduceIte, Nat.reduceEqDiff, reduceCtorEq, Nat.reduceAdd, Nat.reduceLeDiff, Nat.reduceMul]
    · rw [decide_eq_false h2, decide_eq_false (fun h => h2 h.2)]
      simp only [go_sem, ↓reduceIte, Nat.reduceEqDiff, reduceCtorEq, Nat.reduceAdd, Nat.reduceLeDiff, Nat.reduceMul]
  · rw [decide_eq_false h1, decide_eq_false (fun h => h1 h.1)]
    simp only [go_sem, ↓reduceIte, Nat.reduceEqDiff, reduceCtorEq, Nat.reduceAdd, Nat.reduceLeDiff, Nat.reduceMul]

theorem law8 {m : Md} {H : Hp} {v0 vl : Value} {k : List ByteArray × List Int} {l : List Wy} (e0 : ∃ wt wk, v0 = .agg #[wt, wk] ∧ SlS H wt k.1 ∧ SlI H wk k.2) (hl : SlWy H vl l) (hz0 : ∀ z ∈ k.1, z.size ≤ maxLen) (hz1 : ∀ z ∈ l, z.1.size ≤ maxLen) (hw : Wr m H) : Fun EE m 8 [v0, vl] H fun r _ => r = .bool true := by
  obtain ⟨vt, vk, rfl, ht, hk⟩ := e0
  obtain ⟨kt, kk⟩ := k
  simp only at ht hk hz0
  have hm : (maxLen : Nat) ≤ 9223372036854775807 := by decide
  refine fun_f rfl rfl k8 (by simp [c8]) ?_
  simp only [go_sem, ↓reduceIte, Nat.reduceEqDiff, reduceCtorEq, Nat.reduceAdd, Nat.reduceLeDiff, Nat.reduceMul, c8, ht.vc, hk.vc]
  refine callT_to (fun m' h => f35 ht hk (fun z hz => by have := hz0 z hz; omega) (by omega) (by omega) m' h) rfl hw fun r H' ⟨⟨n, e, hn⟩, e2⟩ => ?_
  subst e; subst e2
  simp only [go_sem, ↓reduceIte, Nat.reduceEqDiff, reduceCtorEq, Nat.reduceAdd, Nat.reduceLeDiff, Nat.reduceMul]
  refine brT.intro (fun q0 => ?_) (fun q0 => ?_) <;> simp only [go_sem, ↓reduceIte, Nat.reduceEqDiff, reduceCtorEq, Nat.reduceAdd, Nat.reduceLeDiff, Nat.reduceMul]
  obtain ⟨a1, a2, a3, a4⟩ := hn (by have := of_decide_eq_false q0; omega)
  refine callT_to (fun m' h => f36 hl (fun z hz => by have := hz1 z hz; omega) (by have := of_decide_eq_false q0; omega) a1 m' h) rfl hw fun r H' ⟨⟨n2, e, hn2⟩, e2⟩ => ?_
  subst e; subst e2
  simp only [go_sem, ↓reduceIte, Nat.reduceEqDiff, reduceCtorEq, Nat.reduceAdd, Nat.reduceLeDiff, Nat.reduceMul]
  refine brT.intro (fun q1 => ?_) (fun q1 => ?_) <;> simp only [go_sem, ↓reduceIte, Nat.reduceEqDiff, reduceCtorEq, Nat.reduceAdd, Nat.reduceLeDiff, Nat.reduceMul, ht.vc, hk.vc]
  obtain ⟨b1, b2⟩ := hn2 (by have := of_decide_eq_false q1; omega)
  have hzt : ∀ x ∈ kt, x.size ≤ 4611686018427387904 := fun x hx => by have := a3 x hx; omega
  have hzl : ∀ w ∈ l, w.1.size ≤ 4611686018427387904 := fun x hx => by have := b2 x hx; omega
  refine callT_to (fun m' h => f38 ht hk a2 a4 h) rfl hw fun r1 H1 ⟨u1, u2, e1, p1, s1, s2⟩ => ?_
  subst e1
  have w1 := hw.pre p1
  have l1 := hl.pre p1
  simp only [go_sem, ↓reduceIte, Nat.reduceEqDiff, reduceCtorEq, Nat.reduceAdd, Nat.reduceLeDiff, Nat.reduceMul, s1.vc, s2.vc]
  refine callT_to (fun m' h => f39 l1 b1 h) rfl w1 fun r2 H2 ⟨p2, s3, o3⟩ => ?_
  have w2 := w1.pre p2
  have t1 := s1.pre p2
  have t2 := s2.pre p2
  have a37 := fun {m draw t d ts Q} => callT_at (m := m) (draw := draw) (s := t) (d := d) (ts := ts) (Q := Q) (f37 t1 t2 s3 hzl hzt (by omega))
  have c1 := (ht.pre p1).pre p2
  have c2 := (hk.pre p1).pre p2
  have l2 := l1.pre p2
  simp only [go_sem, ↓reduceIte, Nat.reduceEqDiff, reduceCtorEq, Nat.reduceAdd, Nat.reduceLeDiff, Nat.reduceMul, a37, w2, c1.vc, c2.vc]
  refine callT_to (fun m' h => f38 c1 c2 a2 a4 h) rfl w2 fun r3 H3 ⟨u3, u4, e3, p3, s4, s5⟩ => ?_
  subst e3
  have w3 := w2.pre p3
  have l3 := l2.pre p3
  simp only [go_sem, ↓reduceIte, Nat.reduceEqDiff, reduceCtorEq, Nat.reduceAdd, Nat.reduceLeDiff, Nat.reduceMul, s4.vc, s5.vc]
  refine callT_to (fun m' h => f39 l3 b1 h) rfl w3 fun r4 H4 ⟨p4, s6, o6⟩ => ?_
  have w4 := w3.pre p4
  have t4 := s4.pre p4
  have t5 := s5.pre p4
  have d1 := (c1.pre p3).pre p4
  have d2 := (c2.pre p3).pre p4
  have l4 := l3.pre p4
  have a40 := fun {m draw t d ts Q} => callT_at (m := m) (draw := draw) (s := t) (d := d) (ts := ts) (Q := Q) (f40 t4 t5 s6 hzl hzt (by omega))
  have hB : ∀ b : Bool, decide (b = b) = true := fun b => by simp
  simp only [go_sem, ↓reduceIte, Nat.reduceEqDiff, reduceCtorEq, Nat.reduceAdd, Nat.reduceLeDiff, Nat.reduceMul, a40, w4, t4.vc, t5.vc, beqK, hB]
  refine go_draw ?_
  simp only [go_sem, ↓reduceIte, Nat.reduceEqDiff, reduceCtorEq, Nat.reduceAdd, Nat.reduceLeDiff, Nat.reduceMul, t4.vc, t5.vc, d1.vc, d2.vc]
  refine callT_to (fun m' h => f38 d1 d2 a2 a4 h) rfl w4 fun r5 H5 ⟨u5, u6, e5, p5, s7, s8⟩ => ?_
  subst e5
  have w5 := w4.pre p5
  have g4 := t4.pre p5
  have g5 := t5.pre p5
  have g6 := s6.pre p5
  have l5 := l4.pre p5
  have a41 := fun {m draw t d ts Q} => callT_at (m := m) (draw := draw) (s := t) (d := d) (ts := ts) (Q := Q) (f41 g4 g5 s7 s8)
  have hd1 : decide (kt = kt ∧ kk = kk) = true := by simp
  simp only [go_sem, ↓reduceIte, Nat.reduceEqDiff, reduceCtorEq, Nat.reduceAdd, Nat.reduceLeDiff, Nat.reduceMul, g4.vc, g5.vc, a41, w5, hd1]
  refine ⟨by rfl, ?_⟩
  refine callT_to (fun m' h => f39 l5 b1 h) rfl w5 fun r6 H6 ⟨p6, s9, o9⟩ => ?_
  have w6 := w5.pre p6
  have h6 := g6.pre p6
  have a42 := fun {m draw t d ts Q} => callT_at (m := m) (draw := draw) (s := t) (d := d) (ts := ts) (Q := Q) (f42 h6 s9)
  have hd2 : decide (l = l) = true := by simp
  simp only [go_sem, ↓reduceIte, Nat.reduceEqDiff, reduceCtorEq, Nat.reduceAdd, Nat.reduceLeDiff, Nat.reduceMul, a42, w6, hd2]
end Go.Proofs.Ytpdkgbamakileaa.Ev
