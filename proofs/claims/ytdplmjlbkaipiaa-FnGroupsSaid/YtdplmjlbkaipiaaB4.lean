/- Texts of this proof, laid one behind the other: what each shows stands at its head. -/
import Derived.Test.YtdplmjlbkaipiaaB3
import Derived.Test.YtdplmjlbkaipiaaProg
import Derived.Shelf.Sort.Plain
import Derived.Shelf.Slices.In.SortNone
/- Code of the program's functions, as the small machine has it: written by mkcode.py. -/
namespace Go.Proofs.Ytdplmjlbkaipiaa.Ev
set_option linter.all false
open Go
def c9 : CF := ⟨27, (.seq (.reg false [⟨(some 2), .none, (.mov (.c (.bool false))), 0, []⟩]) (.seq (.reg false [⟨(some 3), .none, (.mov (.c (.int .i64 1048576))), 0, []⟩]) (.seq (.reg false [⟨(some 7), .none, (.mov (.t 0)), 0, []⟩, ⟨(some 8), .none, (.mov (.t 3)), 1, []⟩, ⟨(some 9), .none, (.call 38 [(.t 7), (.t 8)]), 2, []⟩, ⟨(some 3), .none, (.mov (.t 9)), 3, []⟩]) (.seq (.seq (.reg false [⟨(some 10), .none, (.mov (.t 3)), 0, []⟩, ⟨(some 11), .none, (.bin .lss (.t 10) (.c (.int .i64 0))), 1, []⟩]) (.cond (.t 11) (.seq (.reg false [⟨(some 2), .none, (.mov (.c (.bool true))), 0, []⟩]) .ret) .skip)) (.seq (.reg false [⟨(some 12), .none, (.mov (.t 0)), 0, []⟩, ⟨(some 13), .none, (.call 40 [(.t 12)]), 1, []⟩, ⟨(some 14), .none, (.call 39 [(.t 13)]), 2, []⟩, ⟨(some 4), .none, (.mov (.t 14)), 3, []⟩]) (.seq (.reg false [⟨(some 15), .none, (.mov (.t 0)), 0, []⟩, ⟨(some 16), .none, (.call 40 [(.t 15)]), 1, []⟩, ⟨(some 5), .none, (.mov (.t 16)), 2, []⟩]) (.seq (.reg false [⟨(some 17), .none, (.mov (.t 5)), 0, []⟩, ⟨(some 18), .none, (.call 41 [(.t 17)]), 1, []⟩, ⟨(some 6), .none, (.mov (.t 18)), 2, []⟩]) (.seq (.seq (.reg false [⟨(some 19), .none, (.mov (.t 6)), 0, []⟩, ⟨(some 20), .none, (.mov (.t 4)), 1, []⟩, ⟨(some 21), .none, (.beq true (.t 19) (.t 20)), 2, []⟩]) (.cond (.t 21) (.seq (.reg false [⟨(some 2), .none, (.mov (.c (.bool false))), 0, []⟩]) .ret) .skip)) (.seq (.seq (.reg false [⟨(some 22), .none, (.mov (.t 5)), 0, []⟩, ⟨(some 23), .none, (.mov (.t 0)), 1, []⟩, ⟨(some 24), .none, (.call 40 [(.t 23)]), 2, []⟩, ⟨(some 25), .none, (.call 42 [(.t 22), (.t 24)]), 3, []⟩, ⟨(some 26), .none, (.un .not (.t 25)), 4, []⟩]) (.cond (.t 26) (.seq (.reg false [⟨(some 2), .none, (.mov (.c (.bool false))), 0, []⟩]) .ret) .skip)) (.seq (.reg false [⟨(some 2), .none, (.mov (.c (.bool true))), 0, []⟩]) .ret)))))))))), [(.t 2)]⟩
theorem k9 : EE.fns 9 = some c9 := by kernel_rfl
def c10 : CF := ⟨69, (.seq (.reg false [⟨(some 2), .none, (.mov (.c (.bool false))), 0, []⟩]) (.seq (.reg false [⟨(some 3), .none, (.mov (.c (.int .i64 1048576))), 0, []⟩]) (.seq (.reg false [⟨(some 11), .none, (.mov (.t 0)), 0, []⟩, ⟨(some 12), .none, (.mov (.t 3)), 1, []⟩, ⟨(some 13), .none, (.call 38 [(.t 11), (.t 12)]), 2, []⟩, ⟨(some 3), .none, (.mov (.t 13)), 3, []⟩]) (.seq (.seq (.reg false [⟨(some 14), .none, (.mov (.t 3)), 0, []⟩, ⟨(some 15), .none, (.bin .lss (.t 14) (.c (.int .i64 0))), 1, []⟩]) (.cond (.t 15) (.seq (.reg false [⟨(some 2), .none, (.mov (.c (.bool true))), 0, []⟩]) .ret) .skip)) (.seq (.reg false [⟨(some 16), .none, (.mov (.t 0)), 0, []⟩, ⟨(some 17), .none, (.call 40 [(.t 16)]), 1, []⟩, ⟨(some 18), .none, (.call 43 [(.t 17)]), 2, []⟩, ⟨(some 4), .none, (.mov (.t 18)), 3, []⟩]) (.seq (.reg false [⟨(some 19), .none, (.mov (.t 0)), 0, []⟩, ⟨(some 20), .none, (.call 40 [(.t 19)]), 1, []⟩, ⟨(some 5), .none, (.mov (.t 20)), 2, []⟩]) (.seq (.reg false [⟨(some 21), .none, (.mov (.t 5)), 0, []⟩, ⟨(some 22), .none, (.call 44 [(.t 21)]), 1, []⟩, ⟨(some 6), .none, (.mov (.t 22)), 2, []⟩]) (.seq (.seq (.reg false [⟨(some 23), .none, (.mov (.t 6)), 0, []⟩, ⟨(some 24), .none, (.mov (.t 4)), 1, []⟩, ⟨(some 25), .none, (.call 23 [(.t 23), (.t 24)]), 2, []⟩, ⟨(some 26), .none, (.un .not (.t 25)), 3, []⟩]) (.cond (.t 26) (.seq (.reg false [⟨(some 2), .none, (.mov (.c (.bool false))), 0, []⟩]) .ret) .skip)) (.seq (.seq (.reg false [⟨(some 27), .none, (.mov (.t 5)), 0, []⟩, ⟨(some 28), .none, (.mov (.t 0)), 1, []⟩, ⟨(some 29), .none, (.call 40 [(.t 28)]), 2, []⟩, ⟨(some 30), .none, (.call 42 [(.t 27), (.t 29)]), 3, []⟩, ⟨(some 31), .none, (.un .not (.t 30)), 4, []⟩]) (.cond (.t 31) (.seq (.reg false [⟨(some 2), .none, (.mov (.c (.bool false))), 0, []⟩]) .ret) .skip)) (.seq (.reg false [⟨(some 7), .none, (.mov (.c (.int .i64 1))), 0, []⟩]) (.seq (.reg false [⟨(some 32), .none, (.mov (.t 5)), 0, []⟩, ⟨(some 33), .none, (.mov (.t 7)), 1, []⟩, ⟨(some 34), .none, (.call 45 [(.t 32), (.t 33)]), 2, []⟩, ⟨(some 7), .none, (.mov (.t 34)), 3, []⟩]) (.seq (.seq (.reg false [⟨(some 35), .none, (.mov (.t 7)), 0, []⟩, ⟨(some 36), .none, (.bin .lss (.t 35) (.c (.int .i64 0))), 1, []⟩, ⟨(some 37), .none, (.mov (.t 36)), 2, []⟩, ⟨(some 38), (.some (37, false)), (.mov (.t 6)), 3, []⟩, ⟨(some 39), (.some (37, false)), (.mov (.t 4)), 4, []⟩, ⟨(some 40), (.some (37, false)), (.call 23 [(.t 38), (.t 39)]), 5, []⟩, ⟨(some 41), (.some (37, false)), (.un .not (.t 40)), 6, []⟩, ⟨(some 42), .none, (.pick (.t 37) (.c (.bool true)) (.t 41)), 7, []⟩]) (.cond (.t 42) (.seq (.reg false [⟨(some 2), .none, (.mov (.c (.bool false))), 0, []⟩]) .ret) .skip)) (.seq (.reg false [⟨(some 8), .none, (.mov (.c (.int .i64 1))), 0, []⟩]) (.seq (.reg false [⟨(some 43), .none, (.mov (.t 6)), 0, []⟩, ⟨(some 44), .none, (.mov (.t 8)), 1, []⟩, ⟨(some 45), .none, (.call 27 [(.t 43), (.t 44)]), 2, []⟩, ⟨(some 8), .none, (.mov (.t 45)), 3, []⟩]) (.seq (.reg false [⟨(some 9), .none, (.mov (.c (.int .i64 1))), 0, []⟩]) (.seq (.reg false [⟨(some 46), .none, (.mov (.t 6)), 0, []⟩, ⟨(some 47), .none, (.mov (.t 9)), 1, []⟩, ⟨(some 48), .none, (.call 28 [(.t 46), (.t 47)]), 2, []⟩, ⟨(some 9), .none, (.mov (.t 48)), 3, []⟩]) (.seq (.seq (.reg false [⟨(some 49), .none, (.mov (.t 9)), 0, []⟩, ⟨(some 50), .none, (.bin .lss (.t 49) (.c (.int .i64 0))), 1, []⟩]) (.cond (.t 50) (.seq (.reg false [⟨(some 2), .none, (.mov (.c (.bool false))), 0, []⟩]) .ret) .skip)) (.seq (.seq (.reg false [⟨(some 51), .none, (.mov (.t 9)), 0, []⟩, ⟨(some 52), .none, (.mov (.t 8)), 1, []⟩, ⟨(some 53), .none, (.bin .neq (.t 51) (.t 52)), 2, []⟩]) (.cond (.t 53) (.seq (.reg false [⟨(some 2), .none, (.mov (.c (.bool false))), 0, []⟩]) .ret) .skip)) (.seq (.reg false [⟨(some 54), .none, (.mov (.t 0)), 0, []⟩, ⟨(some 55), .none, (.call 40 [(.t 54)]), 1, []⟩, ⟨(some 56), .none, (.call 44 [(.t 55)]), 2, []⟩, ⟨(some 10), .none, (.mov (.t 56)), 3, []⟩]) (.seq (.seq (.reg false [⟨(some 57), .none, (.mov (.t 10)), 0, []⟩, ⟨(some 58), .none, (.mov (.t 4)), 1, []⟩, ⟨(some 59), .none, (.call 23 [(.t 57), (.t 58)]), 2, []⟩, ⟨(some 60), .none, (.un .not (.t 59)), 3, []⟩]) (.cond (.t 60) (.seq (.reg false [⟨(some 2), .none, (.mov (.c (.bool false))), 0, []⟩]) .ret) .skip)) (.seq (.reg false [⟨(some 9), .none, (.mov (.c (.int .i64 1))), 0, []⟩]) (.seq (.reg false [⟨(some 61), .none, (.mov (.t 6)), 0, []⟩, ⟨(some 62), .none, (.mov (.t 9)), 1, []⟩, ⟨(some 63), .none, (.call 28 [(.t 61), (.t 62)]), 2, []⟩, ⟨(some 9), .none, (.mov (.t 63)), 3, []⟩]) (.seq (.seq (.reg false [⟨(some 64), .none, (.mov (.t 9)), 0, []⟩, ⟨(some 65), .none, (.bin .lss (.t 64) (.c (.int .i64 0))), 1, []⟩]) (.cond (.t 65) (.seq (.reg false [⟨(some 2), .none, (.mov (.c (.bool false))), 0, []⟩]) .ret) .skip)) (.seq (.seq (.reg false [⟨(some 66), .none, (.mov (.t 9)), 0, []⟩, ⟨(some 67), .none, (.mov (.t 8)), 1, []⟩, ⟨(some 68), .none, (.bin .neq (.t 66) (.t 67)), 2, []⟩]) (.cond (.t 68) (.seq (.reg false [⟨(some 2), .none, (.mov (.c (.bool false))), 0, []⟩]) .ret) .skip)) (.seq (.reg false [⟨(some 2), .none, (.mov (.c (.bool true))), 0, []⟩]) .ret))))))))))))))))))))))))), [(.t 2)]⟩
theorem k10 : EE.fns 10 = some c10 := by kernel_rfl
def c39 : CF := ⟨32, (.seq (.reg false [⟨(some 2), .none, (.mov (.c (.bool false))), 0, []⟩]) (.seq (.seq (.reg false [⟨(some 4), .none, (.mov (.t 0)), 0, []⟩, ⟨(some 5), .none, (.lenS (.t 4)), 1, []⟩, ⟨(some 6), .none, (.bin .gtr (.t 5) (.c (.int .i64 8))), 2, []⟩]) (.cond (.t 6) (.seq (.reg false [⟨(some 2), .none, (.mov (.c (.bool false))), 0, []⟩]) .ret) .skip)) (.seq (.seq (.reg false [⟨(some 3), .none, (.mov (.c (.int .i64 0))), 0, []⟩]) (.block 0 (.loop (.seq (.seq (.reg false [⟨(some 7), .none, (.mov (.t 3)), 0, []⟩, ⟨(some 8), .none, (.mov (.t 0)), 1, []⟩, ⟨(some 9), .none, (.lenS (.t 8)), 2, []⟩, ⟨(some 10), .none, (.bin .lss (.t 7) (.t 9)), 3, []⟩]) (.cond (.t 10) .skip (.exit 0))) (.seq (.block 1 (.seq (.reg false [⟨(some 13), .none, (.mov (.t 0)), 0, []⟩, ⟨(some 14), .none, (.mov (.t 3)), 1, []⟩, ⟨(some 15), .none, (.iadr 2 (.t 13) (.t 14)), 2, []⟩, ⟨(some 16), .none, (.fadr 0 (.t 15)), 3, []⟩, ⟨(some 17), .none, (.load 1 false (.t 16)), 4, []⟩, ⟨(some 18), .none, (.call 72 [(.t 17), (.c (.int .i64 30))]), 5, []⟩, ⟨(some 19), .none, (.un .not (.t 18)), 6, []⟩, ⟨(some 20), .none, (.mov (.t 19)), 7, []⟩, ⟨(some 21), (.some (20, false)), (.mov (.t 0)), 8, []⟩, ⟨(some 22), (.some (20, false)), (.mov (.t 3)), 9, []⟩, ⟨(some 23), (.some (20, false)), (.iadr 2 (.t 21) (.t 22)), 10, []⟩, ⟨(some 24), (.some (20, false)), (.fadr 1 (.t 23)), 11, []⟩, ⟨(some 25), (.some (20, false)), (.load 1 false (.t 24)), 12, []⟩, ⟨(some 26), (.some (20, false)), (.mov (.t 0)), 13, []⟩, ⟨(some 27), (.some (20, false)), (.lenS (.t 26)), 14, []⟩, ⟨(some 28), (.some (20, false)), (.bin .sub (.t 27) (.c (.int .i64 1))), 15, []⟩, ⟨(some 29), (.some (20, false)), (.call 72 [(.t 25), (.t 28)]), 16, []⟩, ⟨(some 30), (.some (20, false)), (.un .not (.t 29)), 17, []⟩, ⟨(some 31), .none, (.pick (.t 20) (.c (.bool true)) (.t 30)), 18, []⟩]) (.cond (.t 31) (.seq (.reg false [⟨(some 2), .none, (.mov (.c (.bool false))), 0, []⟩]) .ret) .skip))) (.reg false [⟨(some 11), .none, (.mov (.t 3)), 0, []⟩, ⟨(some 12), .none, (.bin .add (.t 11) (.c (.int .i64 1))), 1, []⟩, ⟨(some 3), .none, (.mov (.t 12)), 2, []⟩])))))) (.seq (.reg false [⟨(some 2), .none, (.mov (.c (.bool true))), 0, []⟩]) .ret)))), [(.t 2)]⟩
theorem k39 : EE.fns 39 = some c39 := by kernel_rfl
def c41 : CF := ⟨34, (.seq (.reg false [⟨(some 1), .none, (.boxO (.t 0)), 0, []⟩, ⟨(some 2), .none, (.mov (.c (.bool false))), 1, []⟩]) (.seq (.seq (.reg false [⟨(some 5), .none, (.load 1 false (.t 1)), 0, []⟩, ⟨(some 6), .none, (.lenS (.t 5)), 1, []⟩, ⟨(some 7), .none, (.mov (.c (.int .i64 0))), 2, []⟩]) (.block 0 (.loop (.seq (.reg false [⟨(some 8), .none, (.bin .lss (.t 7) (.t 6)), 0, []⟩]) (.seq (.cond (.t 8) .skip (.exit 0)) (.seq (.block 1 (.seq (.reg false [⟨(some 9), .none, (.iadr 2 (.t 5) (.t 7)), 0, []⟩, ⟨(some 10), .none, (.load 2 true (.t 9)), 1, []⟩, ⟨(some 4), .none, (.newV [(.slice .none 0 0), (.slice .none 0 0)]), 2, []⟩, ⟨.none, .none, (.store 2 (.t 4) (.t 10)), 3, []⟩]) (.seq (.reg false [⟨(some 11), .none, (.fadr 0 (.t 4)), 0, []⟩, ⟨(some 12), .none, (.load 1 false (.t 11)), 1, []⟩, ⟨(some 13), .none, (.call 74 [(.t 12)]), 2, []⟩, ⟨(some 14), .none, (.un .not (.t 13)), 3, []⟩, ⟨(some 15), .none, (.mov (.t 14)), 4, []⟩, ⟨(some 16), (.some (15, false)), (.fadr 1 (.t 4)), 5, []⟩, ⟨(some 17), (.some (15, false)), (.load 1 false (.t 16)), 6, []⟩, ⟨(some 18), (.some (15, false)), (.call 75 [(.t 17)]), 7, []⟩, ⟨(some 19), (.some (15, false)), (.un .not (.t 18)), 8, []⟩, ⟨(some 20), .none, (.pick (.t 15) (.c (.bool true)) (.t 19)), 9, []⟩, ⟨(some 21), .none, (.mov (.t 20)), 10, []⟩, ⟨(some 22), (.some (21, false)), (.fadr 1 (.t 4)), 11, []⟩, ⟨(some 23), (.some (21, false)), (.load 1 false (.t 22)), 12, []⟩, ⟨(some 24), (.some (21, false)), (.load 1 false (.t 1)), 13, []⟩, ⟨(some 25), (.some (21, false)), (.lenS (.t 24)), 14, []⟩, ⟨(some 26), (.some (21, false)), (.fn 77 [(.t 1)]), 15, []⟩, ⟨(some 27), (.some (21, false)), (.call 76 [(.t 23), (.t 25), (.t 26)]), 16, []⟩, ⟨(some 28), (.some (21, false)), (.un .not (.t 27)), 17, []⟩, ⟨(some 29), .none, (.pick (.t 21) (.c (.bool true)) (.t 28)), 18, []⟩]) (.cond (.t 29) (.seq (.reg false [⟨(some 2), .none, (.mov (.c (.bool false))), 0, []⟩]) .ret) .skip)))) (.reg false [⟨(some 30), .none, (.bin .add (.t 7) (.c (.int .i64 1))), 0, []⟩, ⟨(some 7), .none, (.mov (.t 30)), 1, []⟩]))))))) (.seq (.reg false [⟨(some 31), .none, (.load 1 false (.t 1)), 0, []⟩, ⟨(some 32), .none, (.lenS (.t 31)), 1, []⟩, ⟨(some 33), .none, (.bin .leq (.t 32) (.c (.int .i64 8))), 2, []⟩, ⟨(some 2), .none, (.mov (.t 33)), 3, []⟩]) .ret))), [(.t 2)]⟩
theorem k41 : EE.fns 41 = some c41 := by kernel_rfl
def c43 : CF := ⟨27, (.seq (.reg false [⟨(some 2), .none, (.mov (.c (.slice .none 0 0))), 0, []⟩]) (.seq (.reg false [⟨(some 5), .none, (.mkO 0 1 [(.int .i64 0)] []), 0, []⟩, ⟨(some 3), .none, (.mov (.t 5)), 1, []⟩]) (.seq (.seq (.reg false [⟨(some 4), .none, (.mov (.c (.int .i64 0))), 0, []⟩]) (.block 0 (.loop (.seq (.seq (.reg false [⟨(some 6), .none, (.mov (.t 4)), 0, []⟩, ⟨(some 7), .none, (.mov (.t 0)), 1, []⟩, ⟨(some 8), .none, (.lenS (.t 7)), 2, []⟩, ⟨(some 9), .none, (.bin .lss (.t 6) (.t 8)), 3, []⟩, ⟨(some 10), .none, (.mov (.t 9)), 4, []⟩, ⟨(some 11), (.some (10, true)), (.mov (.t 0)), 5, []⟩, ⟨(some 12), (.some (10, true)), (.call 39 [(.t 11)]), 6, []⟩, ⟨(some 13), .none, (.pick (.t 10) (.t 12) (.c (.bool false))), 7, []⟩]) (.cond (.t 13) .skip (.exit 0))) (.seq (.block 1 (.seq (.reg false [⟨(some 16), .none, (.mov (.t 0)), 0, []⟩, ⟨(some 17), .none, (.mov (.t 4)), 1, []⟩, ⟨(some 18), .none, (.call 80 [(.t 16), (.t 17)]), 2, []⟩, ⟨(some 19), .none, (.mov (.t 4)), 3, []⟩, ⟨(some 20), .none, (.iadr 1 (.t 18) (.t 19)), 4, []⟩, ⟨(some 21), .none, (.load 1 false (.t 20)), 5, []⟩]) (.cond (.t 21) (.reg false [⟨(some 22), .none, (.mov (.t 3)), 0, []⟩, ⟨(some 23), .none, (.mov (.t 4)), 1, []⟩, ⟨(some 24), .none, (.mkV 1 1 [(.int .i64 0)] [(0, (.t 23))]), 2, []⟩, ⟨(some 25), .none, (.app 1 8 (.t 22) (.t 24)), 3, []⟩, ⟨(some 3), .none, (.mov (.t 25)), 4, []⟩]) .skip))) (.reg false [⟨(some 14), .none, (.mov (.t 4)), 0, []⟩, ⟨(some 15), .none, (.bin .add (.t 14) (.c (.int .i64 1))), 1, []⟩, ⟨(some 4), .none, (.mov (.t 15)), 2, []⟩])))))) (.seq (.reg false [⟨(some 26), .none, (.mov (.t 3)), 0, []⟩, ⟨(some 2), .none, (.mov (.t 26)), 1, []⟩]) .ret)))), [(.t 2)]⟩
theorem k43 : EE.fns 43 = some c43 := by kernel_rfl
def c44 : CF := ⟨30, (.seq (.reg false [⟨(some 2), .none, (.mov (.c (.slice .none 0 0))), 0, []⟩]) (.seq (.reg false [⟨(some 6), .none, (.mkO 0 1 [(.int .i64 0)] []), 0, []⟩, ⟨(some 3), .none, (.mov (.t 6)), 1, []⟩]) (.seq (.seq (.reg false [⟨(some 7), .none, (.mov (.t 0)), 0, []⟩, ⟨(some 8), .none, (.call 41 [(.t 7)]), 1, []⟩, ⟨(some 9), .none, (.un .not (.t 8)), 2, []⟩]) (.cond (.t 9) (.seq (.reg false [⟨(some 10), .none, (.mov (.t 3)), 0, []⟩, ⟨(some 2), .none, (.mov (.t 10)), 1, []⟩]) .ret) .skip)) (.seq (.seq (.reg false [⟨(some 11), .none, (.mov (.t 0)), 0, []⟩, ⟨(some 12), .none, (.lenS (.t 11)), 1, []⟩, ⟨(some 13), .none, (.mov (.c (.int .i64 0))), 2, []⟩]) (.block 0 (.loop (.seq (.reg false [⟨(some 14), .none, (.bin .lss (.t 13) (.t 12)), 0, []⟩]) (.seq (.cond (.t 14) .skip (.exit 0)) (.seq (.block 1 (.seq (.reg false [⟨(some 15), .none, (.mov (.t 13)), 0, []⟩, ⟨(some 16), .none, (.iadr 2 (.t 11) (.t 13)), 1, []⟩, ⟨(some 17), .none, (.load 2 true (.t 16)), 2, []⟩, ⟨(some 5), .none, (.newV [(.slice .none 0 0), (.slice .none 0 0)]), 3, []⟩, ⟨(some 4), .none, (.mov (.t 15)), 4, []⟩, ⟨.none, .none, (.store 2 (.t 5) (.t 17)), 5, []⟩]) (.seq (.reg false [⟨(some 18), .none, (.mov (.t 0)), 0, []⟩, ⟨(some 19), .none, (.fadr 1 (.t 5)), 1, []⟩, ⟨(some 20), .none, (.load 1 false (.t 19)), 2, []⟩, ⟨(some 21), .none, (.call 81 [(.t 18), (.t 20)]), 3, []⟩, ⟨(some 22), .none, (.mov (.t 4)), 4, []⟩, ⟨(some 23), .none, (.call 62 [(.t 21), (.t 22)]), 5, []⟩]) (.cond (.t 23) (.reg false [⟨(some 24), .none, (.mov (.t 3)), 0, []⟩, ⟨(some 25), .none, (.mov (.t 4)), 1, []⟩, ⟨(some 26), .none, (.mkV 1 1 [(.int .i64 0)] [(0, (.t 25))]), 2, []⟩, ⟨(some 27), .none, (.app 1 8 (.t 24) (.t 26)), 3, []⟩, ⟨(some 3), .none, (.mov (.t 27)), 4, []⟩]) .skip)))) (.reg false [⟨(some 28), .none, (.bin .add (.t 13) (.c (.int .i64 1))), 0, []⟩, ⟨(some 13), .none, (.mov (.t 28)), 1, []⟩]))))))) (.seq (.reg false [⟨(some 29), .none, (.mov (.t 3)), 0, []⟩, ⟨(some 2), .none, (.mov (.t 29)), 1, []⟩]) .ret))))), [(.t 2)]⟩
theorem k44 : EE.fns 44 = some c44 := by kernel_rfl
def c72 : CF := ⟨35, (.seq (.reg false [⟨(some 4), .none, (.mov (.c (.bool false))), 0, []⟩]) (.seq (.seq (.reg false [⟨(some 5), .none, (.mov (.c (.int .i64 0))), 0, []⟩]) (.block 0 (.loop (.seq (.seq (.reg false [⟨(some 6), .none, (.mov (.t 5)), 0, []⟩, ⟨(some 7), .none, (.mov (.t 0)), 1, []⟩, ⟨(some 8), .none, (.lenS (.t 7)), 2, []⟩, ⟨(some 9), .none, (.bin .lss (.t 6) (.t 8)), 3, []⟩]) (.cond (.t 9) .skip (.exit 0))) (.seq (.block 1 (.seq (.reg true [⟨(some 12), .none, (.mov (.t 0)), 0, []⟩, ⟨(some 13), .none, (.mov (.t 5)), 1, []⟩, ⟨(some 14), .none, (.iadr 1 (.t 12) (.t 13)), 2, [0, 1]⟩, ⟨(some 15), .none, (.load 1 false (.t 14)), 3, [2, 0, 1]⟩, ⟨(some 16), .none, (.mov (.t 1)), 4, []⟩, ⟨(some 17), .none, (.call 91 [(.t 15), (.c (.int .i64 0)), (.t 16)]), 5, [3, 2, 0, 1, 4]⟩, ⟨(some 18), .none, (.un .not (.t 17)), 6, [5, 3, 2, 0, 1, 4]⟩, ⟨(some 19), .none, (.mov (.t 18)), 7, [6, 5, 3, 2, 0, 1, 4]⟩, ⟨(some 20), (.some (19, false)), (.mov (.t 5)), 8, [7, 6, 5, 3, 2, 0, 1, 4]⟩, ⟨(some 21), (.some (19, false)), (.bin .gtr (.t 20) (.c (.int .i64 0))), 9, [8, 7, 6, 5, 3, 2, 0, 1, 4]⟩, ⟨(some 22), (.some (19, false)), (.mov (.t 21)), 10, [9, 8, 7, 6, 5, 3, 2, 0, 1, 4]⟩, ⟨(some 23), (.some (22, true)), (.mov (.t 0)), 11, [10, 9, 8, 7, 6, 5, 3, 2, 0, 1, 4]⟩, ⟨(some 24), (.some (22, true)), (.mov (.t 5)), 12, [10, 9, 8, 7, 6, 5, 3, 2, 0, 1, 4]⟩, ⟨(some 25), (.some (22, true)), (.bin .sub (.t 24) (.c (.int .i64 1))), 13, [12, 10, 9, 8, 7, 6, 5, 3, 2, 0, 1, 4]⟩, ⟨(some 26), (.some (22, true)), (.iadr 1 (.t 23) (.t 25)), 14, [11, 10, 9, 8, 7, 6, 5, 3, 2, 0, 1, 4, 13, 12]⟩, ⟨(some 27), (.some (22, true)), (.load 1 false (.t 26)), 15, [14, 11, 10, 9, 8, 7, 6, 5, 3, 2, 0, 1, 4, 13, 12]⟩, ⟨(some 28), (.some (22, true)), (.mov (.t 0)), 16, [10, 9, 8, 7, 6, 5, 3, 2, 0, 1, 4]⟩, ⟨(some 29), (.some (22, true)), (.mov (.t 5)), 17, [10, 9, 8, 7, 6, 5, 3, 2, 0, 1, 4]⟩, ⟨(some 30), (.some (22, true)), (.iadr 1 (.t 28) (.t 29)), 18, [16, 10, 9, 8, 7, 6, 5, 3, 2, 0, 1, 4, 17]⟩, ⟨(some 31), (.some (22, true)), (.load 1 false (.t 30)), 19, [18, 16, 10, 9, 8, 7, 6, 5, 3, 2, 0, 1, 4, 17]⟩, ⟨(some 32), (.some (22, true)), (.bin .geq (.t 27) (.t 31)), 20, [15, 14, 11, 10, 9, 8, 7, 6, 5, 3, 2, 0, 1, 4, 13, 12, 19, 18, 16, 17]⟩, ⟨(some 33), (.some (19, false)), (.pick (.t 22) (.t 32) (.c (.bool false))), 21, [10, 9, 8, 7, 6, 5, 3, 2, 0, 1, 4, 20, 15, 14, 11, 13, 12, 19, 18, 16, 17]⟩, ⟨(some 34), .none, (.pick (.t 19) (.c (.bool true)) (.t 33)), 22, [7, 6, 5, 3, 2, 0, 1, 4, 21, 10, 9, 8, 20, 15, 14, 11, 13, 12, 19, 18, 16, 17]⟩]) (.cond (.t 34) (.seq (.reg false [⟨(some 4), .none, (.mov (.c (.bool false))), 0, []⟩]) .ret) .skip))) (.reg false [⟨(some 10), .none, (.mov (.t 5)), 0, []⟩, ⟨(some 11), .none, (.bin .add (.t 10) (.c (.int .i64 1))), 1, []⟩, ⟨(some 5), .none, (.mov (.t 11)), 2, []⟩])))))) (.seq (.reg false [⟨(some 4), .none, (.mov (.c (.bool true))), 0, []⟩]) .ret))), [(.t 4)]⟩
theorem k72 : EE.fns 72 = some c72 := by kernel_rfl
def c74 : CF := ⟨9, (.seq (.reg false [⟨(some 2), .none, (.mov (.c (.bool false))), 0, []⟩]) (.seq (.reg false [⟨(some 3), .none, (.mov (.t 0)), 0, []⟩, ⟨(some 4), .none, (.call 75 [(.t 3)]), 1, []⟩, ⟨(some 5), .none, (.mov (.t 4)), 2, []⟩, ⟨(some 6), (.some (5, true)), (.mov (.t 0)), 3, []⟩, ⟨(some 7), (.some (5, true)), (.call 76 [(.t 6), (.c (.int .i64 31)), (.f 92)]), 4, []⟩, ⟨(some 8), .none, (.pick (.t 5) (.t 7) (.c (.bool false))), 5, []⟩, ⟨(some 2), .none, (.mov (.t 8)), 6, []⟩]) .ret)), [(.t 2)]⟩
theorem k74 : EE.fns 74 = some c74 := by kernel_rfl
def c75 : CF := ⟨20, (.seq (.reg false [⟨(some 2), .none, (.mov (.c (.bool false))), 0, []⟩]) (.seq (.seq (.reg false [⟨(some 3), .none, (.mov (.c (.int .i64 1))), 0, []⟩]) (.block 0 (.loop (.seq (.seq (.reg false [⟨(some 4), .none, (.mov (.t 3)), 0, []⟩, ⟨(some 5), .none, (.mov (.t 0)), 1, []⟩, ⟨(some 6), .none, (.lenS (.t 5)), 2, []⟩, ⟨(some 7), .none, (.bin .lss (.t 4) (.t 6)), 3, []⟩]) (.cond (.t 7) .skip (.exit 0))) (.seq (.block 1 (.seq (.reg true [⟨(some 10), .none, (.mov (.t 0)), 0, []⟩, ⟨(some 11), .none, (.mov (.t 3)), 1, []⟩, ⟨(some 12), .none, (.bin .sub (.t 11) (.c (.int .i64 1))), 2, [1]⟩, ⟨(some 13), .none, (.iadr 1 (.t 10) (.t 12)), 3, [0, 2, 1]⟩, ⟨(some 14), .none, (.load 1 false (.t 13)), 4, [3, 0, 2, 1]⟩, ⟨(some 15), .none, (.mov (.t 0)), 5, []⟩, ⟨(some 16), .none, (.mov (.t 3)), 6, []⟩, ⟨(some 17), .none, (.iadr 1 (.t 15) (.t 16)), 7, [5, 6]⟩, ⟨(some 18), .none, (.load 1 false (.t 17)), 8, [7, 5, 6]⟩, ⟨(some 19), .none, (.bin .geq (.t 14) (.t 18)), 9, [4, 3, 0, 2, 1, 8, 7, 5, 6]⟩]) (.cond (.t 19) (.seq (.reg false [⟨(some 2), .none, (.mov (.c (.bool false))), 0, []⟩]) .ret) .skip))) (.reg false [⟨(some 8), .none, (.mov (.t 3)), 0, []⟩, ⟨(some 9), .none, (.bin .add (.t 8) (.c (.int .i64 1))), 1, []⟩, ⟨(some 3), .none, (.mov (.t 9)), 2, []⟩])))))) (.seq (.reg false [⟨(some 2), .none, (.mov (.c (.bool true))), 0, []⟩]) .ret))), [(.t 2)]⟩
theorem k75 : EE.fns 75 = some c75 := by kernel_rfl
def c76 : CF := ⟨24, (.seq (.reg false [⟨(some 6), .none, (.mov (.c (.bool false))), 0, []⟩]) (.seq (.seq (.reg false [⟨(some 9), .none, (.mov (.t 0)), 0, []⟩, ⟨(some 10), .none, (.lenS (.t 9)), 1, []⟩, ⟨(some 11), .none, (.mov (.c (.int .i64 0))), 2, []⟩]) (.block 0 (.loop (.seq (.reg false [⟨(some 12), .none, (.bin .lss (.t 11) (.t 10)), 0, []⟩]) (.seq (.cond (.t 12) .skip (.exit 0)) (.seq (.block 1 (.seq (.reg false [⟨(some 13), .none, (.iadr 1 (.t 9) (.t 11)), 0, []⟩, ⟨(some 14), .none, (.load 1 false (.t 13)), 1, []⟩, ⟨(some 8), .none, (.mov (.t 14)), 2, []⟩]) (.seq (.reg false [⟨(some 15), .none, (.mov (.t 2)), 0, []⟩, ⟨(some 16), .none, (.mov (.t 8)), 1, []⟩, ⟨(some 17), .none, (.callV (.t 15) [(.t 16)]), 2, []⟩, ⟨(some 18), .none, (.un .not (.t 17)), 3, []⟩]) (.cond (.t 18) (.seq (.reg false [⟨(some 6), .none, (.mov (.c (.bool false))), 0, []⟩]) .ret) .skip)))) (.reg false [⟨(some 19), .none, (.bin .add (.t 11) (.c (.int .i64 1))), 0, []⟩, ⟨(some 11), .none, (.mov (.t 19)), 1, []⟩]))))))) (.seq (.reg false [⟨(some 20), .none, (.mov (.t 0)), 0, []⟩, ⟨(some 21), .none, (.lenS (.t 20)), 1, []⟩, ⟨(some 22), .none, (.mov (.t 1)), 2, []⟩, ⟨(some 23), .none, (.bin .leq (.t 21) (.t 22)), 3, []⟩, ⟨(some 6), .none, (.mov (.t 23)), 4, []⟩]) .ret))), [(.t 6)]⟩
theorem k76 : EE.fns 76 = some c76 := by kernel_rfl
def c77 : CF := ⟨9, (.seq (.reg false [⟨(some 3), .none, (.mov (.c (.bool false))), 0, []⟩]) (.seq (.reg false [⟨(some 4), .none, (.mov (.t 0)), 0, []⟩, ⟨(some 5), .none, (.load 1 false (.t 1)), 1, []⟩, ⟨(some 6), .none, (.lenS (.t 5)), 2, []⟩, ⟨(some 7), .none, (.bin .sub (.t 6) (.c (.int .i64 1))), 3, []⟩, ⟨(some 8), .none, (.call 78 [(.t 4), (.c (.int .i64 0)), (.t 7)]), 4, []⟩, ⟨(some 3), .none, (.mov (.t 8)), 5, []⟩]) .ret)), [(.t 3)]⟩
theorem k77 : EE.fns 77 = some c77 := by kernel_rfl
def c80 : CF := ⟨72, (.seq (.reg false [⟨(some 4), .none, (.mov (.c (.slice .none 0 0))), 0, []⟩]) (.seq (.reg false [⟨(some 10), .none, (.mov (.t 0)), 0, []⟩, ⟨(some 11), .none, (.lenS (.t 10)), 1, []⟩, ⟨(some 12), .none, (.makeS 1 1 [(.bool false)] (.t 11) (.t 11)), 2, []⟩, ⟨(some 5), .none, (.mov (.t 12)), 3, []⟩]) (.seq (.seq (.reg false [⟨(some 6), .none, (.mov (.c (.int .i64 0))), 0, []⟩]) (.block 0 (.loop (.seq (.seq (.reg false [⟨(some 13), .none, (.mov (.t 6)), 0, []⟩, ⟨(some 14), .none, (.mov (.t 0)), 1, []⟩, ⟨(some 15), .none, (.mov (.t 1)), 2, []⟩, ⟨(some 16), .none, (.iadr 2 (.t 14) (.t 15)), 3, []⟩, ⟨(some 17), .none, (.fadr 1 (.t 16)), 4, []⟩, ⟨(some 18), .none, (.load 1 false (.t 17)), 5, []⟩, ⟨(some 19), .none, (.lenS (.t 18)), 6, []⟩, ⟨(some 20), .none, (.bin .lss (.t 13) (.t 19)), 7, []⟩]) (.cond (.t 20) .skip (.exit 0))) (.seq (.block 1 (.reg false [⟨(some 23), .none, (.mov (.t 5)), 0, []⟩, ⟨(some 24), .none, (.mov (.t 0)), 1, []⟩, ⟨(some 25), .none, (.mov (.t 1)), 2, []⟩, ⟨(some 26), .none, (.iadr 2 (.t 24) (.t 25)), 3, []⟩, ⟨(some 27), .none, (.fadr 1 (.t 26)), 4, []⟩, ⟨(some 28), .none, (.load 1 false (.t 27)), 5, []⟩, ⟨(some 29), .none, (.mov (.t 6)), 6, []⟩, ⟨(some 30), .none, (.iadr 1 (.t 28) (.t 29)), 7, []⟩, ⟨(some 31), .none, (.load 1 false (.t 30)), 8, []⟩, ⟨(some 32), .none, (.iadr 1 (.t 23) (.t 31)), 9, []⟩, ⟨.none, .none, (.store 1 (.t 32) (.c (.bool true))), 10, []⟩])) (.reg false [⟨(some 21), .none, (.mov (.t 6)), 0, []⟩, ⟨(some 22), .none, (.bin .add (.t 21) (.c (.int .i64 1))), 1, []⟩, ⟨(some 6), .none, (.mov (.t 22)), 2, []⟩])))))) (.seq (.seq (.reg false [⟨(some 7), .none, (.mov (.c (.int .i64 0))), 0, []⟩]) (.block 2 (.loop (.seq (.seq (.reg false [⟨(some 33), .none, (.mov (.t 7)), 0, []⟩, ⟨(some 34), .none, (.mov (.t 0)), 1, []⟩, ⟨(some 35), .none, (.lenS (.t 34)), 2, []⟩, ⟨(some 36), .none, (.bin .lss (.t 33) (.t 35)), 3, []⟩]) (.cond (.t 36) .skip (.exit 2))) (.seq (.block 3 (.seq (.reg false [⟨(some 8), .none, (.mov (.c (.int .i64 0))), 0, []⟩]) (.block 4 (.loop (.seq (.seq (.reg false [⟨(some 39), .none, (.mov (.t 8)), 0, []⟩, ⟨(some 40), .none, (.mov (.t 0)), 1, []⟩, ⟨(some 41), .none, (.lenS (.t 40)), 2, []⟩, ⟨(some 42), .none, (.bin .lss (.t 39) (.t 41)), 3, []⟩]) (.cond (.t 42) .skip (.exit 4))) (.seq (.block 5 (.seq (.reg false [⟨(some 9), .none, (.mov (.c (.int .i64 0))), 0, []⟩]) (.block 6 (.loop (.seq (.seq (.reg false [⟨(some 45), .none, (.mov (.t 5)), 0, []⟩, ⟨(some 46), .none, (.mov (.t 8)), 1, []⟩, ⟨(some 47), .none, (.iadr 1 (.t 45) (.t 46)), 2, []⟩, ⟨(some 48), .none, (.load 1 false (.t 47)), 3, []⟩, ⟨(some 49), .none, (.mov (.t 48)), 4, []⟩, ⟨(some 50), (.some (49, true)), (.mov (.t 9)), 5, []⟩, ⟨(some 51), (.some (49, true)), (.mov (.t 0)), 6, []⟩, ⟨(some 52), (.some (49, true)), (.mov (.t 8)), 7, []⟩, ⟨(some 53), (.some (49, true)), (.iadr 2 (.t 51) (.t 52)), 8, []⟩, ⟨(some 54), (.some (49, true)), (.fadr 1 (.t 53)), 9, []⟩, ⟨(some 55), (.some (49, true)), (.load 1 false (.t 54)), 10, []⟩, ⟨(some 56), (.some (49, true)), (.lenS (.t 55)), 11, []⟩, ⟨(some 57), (.some (49, true)), (.bin .lss (.t 50) (.t 56)), 12, []⟩, ⟨(some 58), .none, (.pick (.t 49) (.t 57) (.c (.bool false))), 13, []⟩]) (.cond (.t 58) .skip (.exit 6))) (.seq (.block 7 (.reg false [⟨(some 61), .none, (.mov (.t 5)), 0, []⟩, ⟨(some 62), .none, (.mov (.t 0)), 1, []⟩, ⟨(some 63), .none, (.mov (.t 8)), 2, []⟩, ⟨(some 64), .none, (.iadr 2 (.t 62) (.t 63)), 3, []⟩, ⟨(some 65), .none, (.fadr 1 (.t 64)), 4, []⟩, ⟨(some 66), .none, (.load 1 false (.t 65)), 5, []⟩, ⟨(some 67), .none, (.mov (.t 9)), 6, []⟩, ⟨(some 68), .none, (.iadr 1 (.t 66) (.t 67)), 7, []⟩, ⟨(some 69), .none, (.load 1 false (.t 68)), 8, []⟩, ⟨(some 70), .none, (.iadr 1 (.t 61) (.t 69)), 9, []⟩, ⟨.none, .none, (.store 1 (.t 70) (.c (.bool true))), 10, []⟩])) (.reg false [⟨(some 59), .none, (.mov (.t 9)), 0, []⟩, ⟨(some 60), .none, (.bin .add (.t 59) (.c (.int .i64 1))), 1, []⟩, ⟨(some 9), .none, (.mov (.t 60)), 2, []⟩]))))))) (.reg false [⟨(some 43), .none, (.mov (.t 8)), 0, []⟩, ⟨(some 44), .none, (.bin .add (.t 43) (.c (.int .i64 1))), 1, []⟩, ⟨(some 8), .none, (.mov (.t 44)), 2, []⟩]))))))) (.reg false [⟨(some 37), .none, (.mov (.t 7)), 0, []⟩, ⟨(some 38), .none, (.bin .add (.t 37) (.c (.int .i64 1))), 1, []⟩, ⟨(some 7), .none, (.mov (.t 38)), 2, []⟩])))))) (.seq (.reg false [⟨(some 71), .none, (.mov (.t 5)), 0, []⟩, ⟨(some 4), .none, (.mov (.t 71)), 1, []⟩]) .ret))))), [(.t 4)]⟩
theorem k80 : EE.fns 80 = some c80 := by kernel_rfl
def c81 : CF := ⟨40, (.seq (.reg false [⟨(some 4), .none, (.mov (.c (.slice .none 0 0))), 0, []⟩]) (.seq (.reg false [⟨(some 9), .none, (.mov (.t 1)), 0, []⟩, ⟨(some 10), .none, (.call 86 [(.t 9)]), 1, []⟩, ⟨(some 5), .none, (.mov (.t 10)), 2, []⟩]) (.seq (.seq (.reg false [⟨(some 6), .none, (.mov (.c (.int .i64 0))), 0, []⟩]) (.block 0 (.loop (.seq (.seq (.reg false [⟨(some 11), .none, (.mov (.t 6)), 0, []⟩, ⟨(some 12), .none, (.mov (.t 5)), 1, []⟩, ⟨(some 13), .none, (.lenS (.t 12)), 2, []⟩, ⟨(some 14), .none, (.bin .lss (.t 11) (.t 13)), 3, []⟩]) (.cond (.t 14) .skip (.exit 0))) (.seq (.block 1 (.seq (.reg false [⟨(some 17), .none, (.mov (.t 0)), 0, []⟩, ⟨(some 18), .none, (.mov (.t 5)), 1, []⟩, ⟨(some 19), .none, (.mov (.t 6)), 2, []⟩, ⟨(some 20), .none, (.iadr 1 (.t 18) (.t 19)), 3, []⟩, ⟨(some 21), .none, (.load 1 false (.t 20)), 4, []⟩, ⟨(some 22), .none, (.iadr 2 (.t 17) (.t 21)), 5, []⟩, ⟨(some 23), .none, (.fadr 1 (.t 22)), 6, []⟩, ⟨(some 24), .none, (.load 1 false (.t 23)), 7, []⟩, ⟨(some 25), .none, (.lenS (.t 24)), 8, []⟩, ⟨(some 26), .none, (.mov (.c (.int .i64 0))), 9, []⟩]) (.block 2 (.loop (.seq (.reg false [⟨(some 27), .none, (.bin .lss (.t 26) (.t 25)), 0, []⟩]) (.seq (.cond (.t 27) .skip (.exit 2)) (.seq (.block 3 (.seq (.reg false [⟨(some 28), .none, (.iadr 1 (.t 24) (.t 26)), 0, []⟩, ⟨(some 29), .none, (.load 1 false (.t 28)), 1, []⟩, ⟨(some 8), .none, (.mov (.t 29)), 2, []⟩]) (.seq (.reg false [⟨(some 30), .none, (.mov (.t 5)), 0, []⟩, ⟨(some 31), .none, (.mov (.t 8)), 1, []⟩, ⟨(some 32), .none, (.call 62 [(.t 30), (.t 31)]), 2, []⟩, ⟨(some 33), .none, (.un .not (.t 32)), 3, []⟩]) (.cond (.t 33) (.reg false [⟨(some 34), .none, (.mov (.t 5)), 0, []⟩, ⟨(some 35), .none, (.mov (.t 8)), 1, []⟩, ⟨(some 36), .none, (.mkV 1 1 [(.int .i64 0)] [(0, (.t 35))]), 2, []⟩, ⟨(some 37), .none, (.app 1 8 (.t 34) (.t 36)), 3, []⟩, ⟨(some 5), .none, (.mov (.t 37)), 4, []⟩]) .skip)))) (.reg false [⟨(some 38), .none, (.bin .add (.t 26) (.c (.int .i64 1))), 0, []⟩, ⟨(some 26), .none, (.mov (.t 38)), 1, []⟩])))))))) (.reg false [⟨(some 15), .none, (.mov (.t 6)), 0, []⟩, ⟨(some 16), .none, (.bin .add (.t 15) (.c (.int .i64 1))), 1, []⟩, ⟨(some 6), .none, (.mov (.t 16)), 2, []⟩])))))) (.seq (.reg false [⟨(some 39), .none, (.mov (.t 5)), 0, []⟩, ⟨(some 4), .none, (.mov (.t 39)), 1, []⟩]) .ret)))), [(.t 4)]⟩
theorem k81 : EE.fns 81 = some c81 := by kernel_rfl
def c86 : CF := ⟨5, (.seq (.reg false [⟨(some 2), .none, (.mov (.c (.slice .none 0 0))), 0, []⟩]) (.seq (.reg false [⟨(some 3), .none, (.mov (.t 0)), 0, []⟩, ⟨(some 4), .none, (.app 1 8 (.c (.slice .none 0 0)) (.t 3)), 1, []⟩, ⟨(some 2), .none, (.mov (.t 4)), 2, []⟩]) .ret)), [(.t 2)]⟩
theorem k86 : EE.fns 86 = some c86 := by kernel_rfl
def c91 : CF := ⟨15, (.seq (.reg false [⟨(some 6), .none, (.mov (.c (.bool false))), 0, []⟩]) (.seq (.reg false [⟨(some 7), .none, (.mov (.t 0)), 0, []⟩, ⟨(some 8), .none, (.mov (.t 1)), 1, []⟩, ⟨(some 9), .none, (.bin .geq (.t 7) (.t 8)), 2, []⟩, ⟨(some 10), .none, (.mov (.t 9)), 3, []⟩, ⟨(some 11), (.some (10, true)), (.mov (.t 0)), 4, []⟩, ⟨(some 12), (.some (10, true)), (.mov (.t 2)), 5, []⟩, ⟨(some 13), (.some (10, true)), (.bin .leq (.t 11) (.t 12)), 6, []⟩, ⟨(some 14), .none, (.pick (.t 10) (.t 13) (.c (.bool false))), 7, []⟩, ⟨(some 6), .none, (.mov (.t 14)), 8, []⟩]) .ret)), [(.t 6)]⟩
theorem k91 : EE.fns 91 = some c91 := by kernel_rfl
def c92 : CF := ⟨5, (.seq (.reg false [⟨(some 2), .none, (.mov (.c (.bool false))), 0, []⟩]) (.seq (.reg false [⟨(some 3), .none, (.mov (.t 0)), 0, []⟩, ⟨(some 4), .none, (.call 78 [(.t 3), (.c (.int .i64 0)), (.c (.int .i64 30))]), 1, []⟩, ⟨(some 2), .none, (.mov (.t 4)), 2, []⟩]) .ret)), [(.t 2)]⟩
theorem k92 : EE.fns 92 = some c92 := by kernel_rfl
end Go.Proofs.Ytdplmjlbkaipiaa.Ev

/- The program's way to count steps. -/
namespace Go.Proofs.Ytdplmjlbkaipiaa.Ev
set_option linter.all false
open Go
set_option maxRecDepth 4000

theorem f86 {m : Md} {H : Hp} {v : Value} {l : List Int} (hl : SlI H v l) (hle : l.length ≤ 1048576) (hw : Wr m H) : Fun EE m 86 [v] H fun r H' => FreshS eI 1 H r H' l := by
  refine fun_f rfl rfl k86 (by simp [c86]) ?_
  obtain ⟨v', H', h1, h2, h3, h4⟩ := hl.copy (m := m) (bytes := 8) (by unfold room; omega) (by unfold room; omega)
  simp only [go_sem, ↓reduceIte, Nat.reduceEqDiff, reduceCtorEq, Nat.reduceAdd, Nat.reduceLeDiff, Nat.reduceMul, c86]
  rw [h1 _ _ _ rfl rfl rfl]
  simp only [go_sem, ↓reduceIte, Nat.reduceEqDiff, reduceCtorEq, Nat.reduceAdd, Nat.reduceLeDiff, Nat.reduceMul]
  exact ⟨h2, h3, h4⟩

/-- One number more. -/
theorem Sl.one {m : Md} {N : Nat} {H : Hp} {v : Value} {l : List Int} (a : Int) (h : SlI H v l) (ho : OwnS N v) (hN : N ≤ H.length) (hw : ∀ id, N ≤ id → m.wr id = true) (hb : l.length < 1048576) :
    ∃ v' H', (∀ (s : St) (x y : X), s.H = H → exv s.ρ x = some v → ex s.ρ y = .vs 1 [.int .i64 a] → appK m s 1 8 x y = some (.val v', { s with H := H' })) ∧ SlI H' v' (l ++ [a]) ∧ OwnS N v' ∧
      (∀ j, j < H.length → j ∉ idsOf v → H'[j]? = H[j]?) ∧ H.length ≤ H'.length ∧ (∀ j ∈ idsOf v', j ∈ idsOf v ∨ H.length ≤ j) ∧ ∀ H0 : Hp, H0.length ≤ N → H0 <+: H → H0 <+: H' := by
  obtain ⟨v', H', h1, h2⟩ := h.app (m := m) (n := 1) (bytes := 8) (l2 := [a]) (cs := [.int .i64 a]) ho hN hw (fun _ => rfl) (by simp) rfl (fun i b hi => by
    cases i with
    | zero => simp at hi; subst hi; rfl
    | succ i => simp at hi) (by unfold Ev.room; simp; omega) (by unfold Ev.room; simp; omega)
  exact ⟨v', H', fun s x y hH hx hy => h1 s x y hH hx (by rw [hy]; rfl), h2⟩

end Go.Proofs.Ytdplmjlbkaipiaa.Ev

/- The reference's way to count steps: all realms at once. -/
namespace Go.Proofs.Ytdplmjlbkaipiaa.Ev
set_option linter.all false
open Go
set_option maxRecDepth 4000

/-- Hops that stay clear of a realm. -/
def Pout (l : List Hop) (out : Int) (h : Hop) : Prop := h ∈ l ∧ h.1 ≠ out ∧ h.2 ≠ out
section
variable {l : List Hop} {to out : Int} {r i : Nat}

end
end Go.Proofs.Ytdplmjlbkaipiaa.Ev

/- The reference's way to count steps: its walk. -/
namespace Go.Proofs.Ytdplmjlbkaipiaa.Ev
set_option linter.all false
open Go
set_option maxRecDepth 4000

end Go.Proofs.Ytdplmjlbkaipiaa.Ev

/- HopsOk, both of them, and the law. -/
namespace Go.Proofs.Ytdplmjlbkaipiaa.Ev
set_option linter.all false
open Go
set_option maxRecDepth 4000

end Go.Proofs.Ytdplmjlbkaipiaa.Ev

/- A way from realm to realm: plain. -/
namespace Go.Proofs.Ytdplmjlbkaipiaa.Ev
set_option linter.all false
open Go

/-- The least realm from some one on that is next; -1 if there is none. -/
def LeastFrom (Q : Int → Prop) (a : Nat) (v : Int) : Prop := (v = -1 ∧ ∀ y : Nat, a ≤ y → y < 8 → ¬ Q y) ∨ ∃ z : Nat, v = z ∧ a ≤ z ∧ z < 8 ∧ Q z ∧ ∀ y : Nat, a ≤ y → y < z → ¬ Q y

theorem LeastFrom.start (Q : Int → Prop) : LeastFrom Q 8 (-1) := .inl ⟨rfl, fun y h1 h2 => by omega⟩
theorem LeastFrom.yes {Q : Int → Prop} {a : Nat} (ha : a < 8) (h : Q a) : LeastFrom Q a a := .inr ⟨a, rfl, Nat.le_refl _, ha, h, fun y h1 h2 => by omega⟩
theorem LeastFrom.no {Q : Int → Prop} {a : Nat} {v : Int} (h : LeastFrom Q (a + 1) v) (hq : ¬ Q a) : LeastFrom Q a v := by
  rcases h with ⟨rfl, h⟩ | ⟨z, rfl, h1, h2, h3, h4⟩
  · refine .inl ⟨rfl, fun y h1 h2 => ?_⟩
    by_cases e : y = a
    · subst e; exact hq
    · exact h y (by omega) h2
  · refine .inr ⟨z, rfl, by omega, h2, h3, fun y h5 h6 => ?_⟩
    by_cases e : y = a
    · subst e; exact hq
    · exact h4 y (by omega) h6
end Go.Proofs.Ytdplmjlbkaipiaa.Ev

/- The reference's Route: its walk. -/
namespace Go.Proofs.Ytdplmjlbkaipiaa.Ev
set_option linter.all false
open Go
set_option maxRecDepth 4000

theorem own_notin {x N : Nat} {v : Value} (h : OwnS N v) (hx : x < N) : x ∉ idsOf v := by
  rcases h with rfl | ⟨id, e, ln, cap, rfl, hid⟩
  · simp [idsOf]
  · simp [idsOf]; omega

/-- A slice whose row isn't the one that grows. -/
theorem Sl.aside {α : Type} {R : α → List Value → Prop} {esz : Nat} {H H' : Hp} {v w : Value} {l : List α} (h : Sl R esz H v l) (hd : ∀ j ∈ idsOf v, j ∉ idsOf w) (hf : ∀ j, j < H.length → j ∉ idsOf w → H'[j]? = H[j]?) : Sl R esz H' v l := by
  have hid := h.ids
  refine h.frame (fun _ _ _ h => h) fun id off e len cap hv => ?_
  subst hv
  exact hf id (hid id (by simp [idsOf])) (hd id (by simp [idsOf]))

end Go.Proofs.Ytdplmjlbkaipiaa.Ev

/- The program's own Route: its walk. -/
namespace Go.Proofs.Ytdplmjlbkaipiaa.Ev
set_option linter.all false
open Go
set_option maxRecDepth 4000

end Go.Proofs.Ytdplmjlbkaipiaa.Ev

/- The law Route. -/
namespace Go.Proofs.Ytdplmjlbkaipiaa.Ev
set_option linter.all false
open Go
set_option maxRecDepth 4000

theorem Sl.blank {α : Type} {R : α → List Value → Prop} {esz : Nat} {H : Hp} {v : Value} {l : List α} (h : Sl R esz H v l) : Sl (fun _ _ => True) esz H v l := h.frame (fun _ _ _ _ => trivial) fun _ _ _ _ _ _ => rfl
theorem Sl.keep {α : Type} {R : α → List Value → Prop} {esz : Nat} {H H' : Hp} {v w : Value} {l : List α} (h : Sl R esz H v l) (hd : ∀ j ∈ idsOf v, j ∉ idsOf w) (hf : ∀ j, j ∉ idsOf w → H'[j]? = H[j]?) : Sl R esz H' v l := h.aside hd fun j _ hj => hf j hj
theorem own_ge {N : Nat} {v : Value} (h : OwnS N v) : ∀ j ∈ idsOf v, N ≤ j := fun j hj => by
  rcases Nat.lt_or_ge j N with h2 | h2
  · exact absurd hj (own_notin h h2)
  · exact h2

end Go.Proofs.Ytdplmjlbkaipiaa.Ev

/- Draws: the cursor, and numbers drawn by it. -/
namespace Go.Proofs.Ytdplmjlbkaipiaa.Ev
set_option linter.all false
open Go
set_option maxRecDepth 4000

def eU (n : Int) : List Value := [.int .u8 n]
abbrev SlU (H : Hp) (v : Value) (l : List Int) : Prop := Sl (En eU) 1 H v l
theorem Sl.byte {H : Hp} {v : Value} {l : List Int} (h : SlU H v l) {i : Nat} {a : Int} (hi : l[i]? = some a) : ∃ id p o, H[id]? = some o ∧ o[p]? = some (.int .u8 a) ∧
    ∀ (s : St) (x y : X), exv s.ρ x = some v → exv s.ρ y = some (.int .i64 i) → iadrK s 1 x y = some (.val (.pointer (some ⟨id, p, some o.length⟩)), s) := by
  obtain ⟨id, p, o, ho, hr, hp, hia⟩ := h.elem hi
  unfold En at hr
  exact ⟨id, p, o, ho, by simpa [eU] using getElem?_of_take hr (j := 0) (by omega), hia⟩

/-- A cursor over a draw's bytes. -/
def Cur (H : Hp) (c : Value) (id : Nat) : Prop := c = .pointer (some ⟨id, 0, some 3⟩) ∧ ∃ b i h bl, H[id]? = some [b, .int .i64 i, .int .i64 h] ∧ SlU H b bl ∧ 0 ≤ i ∧ ∀ j ∈ idsOf b, j < id
/-- The cursor has gone on; no more has been done. -/
def CS (H H' : Hp) (c : Value) (id : Nat) : Prop := Cur H' c id ∧ (∀ j, j ≠ id → H'[j]? = H[j]?) ∧ H'.length = H.length

theorem CS.trans {H H' H'' : Hp} {c : Value} {id : Nat} (h : CS H H' c id) (k : CS H' H'' c id) : CS H H'' c id := ⟨k.1, fun j hj => (k.2.1 j hj).trans (h.2.1 j hj), k.2.2.trans h.2.2⟩
theorem Sl.cs {α : Type} {R : α → List Value → Prop} {esz : Nat} {H H' : Hp} {v c : Value} {l : List α} {id : Nat} (h : Sl R esz H v l) (hc : CS H H' c id) (hid : id ∉ idsOf v) : Sl R esz H' v l :=
  h.frame (fun _ _ _ h => h) fun i off e ln cap hv => hc.2.1 i (fun e2 => hid (by subst hv; subst e2; simp [idsOf]))

theorem Cur.keep {H H' : Hp} {c : Value} {id : Nat} (h : Cur H c id) (hk : ∀ j, j ≤ id → H'[j]? = H[j]?) : Cur H' c id := by
  obtain ⟨rfl, b, i, g, bl, hid, hb, hi, hnb⟩ := h
  exact ⟨rfl, b, i, g, bl, by rw [hk id (Nat.le_refl _)]; exact hid, hb.frame (fun _ _ _ h => h) (fun x off e ln cap hv => hk x (Nat.le_of_lt (hnb x (by subst hv; simp [idsOf])))), hi, hnb⟩
theorem Cur.lt {H : Hp} {c : Value} {id : Nat} (h : Cur H c id) : id < H.length := by
  obtain ⟨rfl, b, i, g, bl, hid, _⟩ := h
  exact (List.getElem?_eq_some_iff.1 hid).1

theorem and255 (a : Int) : 0 ≤ IntKind.i64.wrap ((BitVec.ofInt IntKind.i64.bits a &&& BitVec.ofInt IntKind.i64.bits 255).toNat : Int) ∧ IntKind.i64.wrap ((BitVec.ofInt IntKind.i64.bits a &&& BitVec.ofInt IntKind.i64.bits 255).toNat : Int) ≤ 255 := by
  have h : (BitVec.ofInt IntKind.i64.bits a &&& BitVec.ofInt IntKind.i64.bits 255).toNat ≤ 255 := by
    rw [BitVec.toNat_and]
    refine Nat.le_trans (Nat.and_le_right) ?_
    decide
  rw [wrap64 _ (by omega) (by omega)]
  omega

theorem f89 {m : Md} {H : Hp} {c : Value} {id : Nat} (hc : Cur H c id) (hw : m.wr id = true) : Fun EE m 89 [c] H fun r H' => ∃ x : Int, r = .int .i64 x ∧ 0 ≤ x ∧ x ≤ 255 ∧ CS H H' c id := by
  refine fun_f rfl rfl k89 (by simp [c89]) ?_
  obtain ⟨rfl, b, i, h, bl, hid, hb, hi, hnb0⟩ := hc
  have hnb : id ∉ idsOf b := fun hm => by have := hnb0 _ hm; omega
  have hidl := (List.getElem?_eq_some_iff.1 hid).1
  have hset : ∀ q, (H.set id q)[id]? = some q := fun q => List.getElem?_set_self hidl
  have hroom := hb.room
  simp only [go_sem, ↓reduceIte, Nat.reduceEqDiff, reduceCtorEq, Nat.reduceAdd, Nat.reduceLeDiff, Nat.reduceMul, c89, hid, hw]
  refine go_draw ?_
  simp only [go_sem, ↓reduceIte, Nat.reduceEqDiff, reduceCtorEq, Nat.reduceAdd, Nat.reduceLeDiff, Nat.reduceMul, hset, Int.reduceLT, Bool.false_eq_true]
  refine ⟨by rfl, ?_⟩
  refine go_draw ?_
  simp only [go_sem, ↓reduceIte, Nat.reduceEqDiff, reduceCtorEq, Nat.reduceAdd, Nat.reduceLeDiff, Nat.reduceMul, hset, Int.reduceLT]
  simp only [go_sem, ↓reduceIte, Nat.reduceEqDiff, reduceCtorEq, Nat.reduceAdd, Nat.reduceLeDiff, Nat.reduceMul, hb.len, Int.reduceLT]
  refine ⟨by rfl, ?_⟩
  have done : ∀ (i' h' : Int) (q : List Value), 0 ≤ i' → q = [b, .int .i64 i', .int .i64 h'] → CS H (H.set id q) (.pointer (some ⟨id, 0, some 3⟩)) id := fun i' h' q hi' hq => by
    subst hq
    exact ⟨⟨rfl, b, i', h', bl, hset _, hb.other hnb, hi', hnb0⟩, fun j hj => List.getElem?_set_ne (fun e => hj e.symm), by simp⟩
  refine brT.intro (fun c1 => ?_) (fun c1 => ?_)
  · obtain ⟨k, rfl⟩ : ∃ k : Nat, i = k := ⟨i.toNat, by omega⟩
    have hk : k < bl.length := by have := of_decide_eq_true c1; omega
    obtain ⟨idb, pb, ob, hob, hrb, hiab⟩ := (hb.other (r := [b, .int .i64 k, .int .i64 (IntKind.i64.wrap (IntKind.i64.wrap (h * 6364136223846793005) + 1442695040888963407))]) hnb).byte (List.getElem?_eq_getElem hk)
    simp only [go_sem, ↓reduceIte, Nat.reduceEqDiff, reduceCtorEq, Nat.reduceAdd, Nat.reduceLeDiff, Nat.reduceMul]
    refine go_draw ?_
    simp only [go_sem, ↓reduceIte, Nat.reduceEqDiff, reduceCtorEq, Nat.reduceAdd, Nat.reduceLeDiff, Nat.reduceMul, hset, hiab, hob, hrb, Int.reduceLT]
    refine ⟨by rfl, ?_⟩
    simp only [go_sem, ↓reduceIte, Nat.reduceEqDiff, reduceCtorEq, Nat.reduceAdd, Nat.reduceLeDiff, Nat.reduceMul, hset, hw, List.set_set, wrap64 ((k : Int) + 1) (by omega) (by omega)]
    exact ⟨_, rfl, (and255 _).1, (and255 _).2, done _ _ _ (by omega) rfl⟩
  · simp only [go_sem, ↓reduceIte, Nat.reduceEqDiff, reduceCtorEq, Nat.reduceAdd, Nat.reduceLeDiff, Nat.reduceMul]
    exact ⟨_, rfl, (and255 _).1, (and255 _).2, done _ _ _ hi rfl⟩
end Go.Proofs.Ytdplmjlbkaipiaa.Ev

/- The types of the laws' parameters: bytes. -/
namespace Go.Proofs.Ytdplmjlbkaipiaa.Ev
set_option linter.all false
open Go
set_option maxRecDepth 100000
theorem bU : Bld Try.prog 5 1 (fun _ (n : Int) vs => vs = [.int .u8 n]) (fun n => (Lit.int .u8 n).wf = true) := Bld.int Try.underlying5 (by kernel_rfl)
theorem aBytes : ArgB Try.prog 40 (fun M (l : List Int) v => SlU M v l) (fun l => ∀ x ∈ l, (Lit.int .u8 x).wf = true) :=
  have h := ArgB.slice (t := 40) (e := 5) Try.underlying40 (by kernel_rfl) (bU.conv (R' := fun _ (n : Int) vs => En eU n vs) (fun n => n) (fun _ _ _ h => h) (fun _ h => h) (fun _ h => h))
  ⟨h.mono, fun a b J M r => by
    obtain ⟨J', M', u, z, a1, a2, a3, a4, a5⟩ := h.arg a b J M r
    exact ⟨J', M', u, z, a1, a2, a3, a4, a5.2⟩⟩
end Go.Proofs.Ytdplmjlbkaipiaa.Ev

/- Draws: numbers below a number, choices; the laws' own helpers. -/
namespace Go.Proofs.Ytdplmjlbkaipiaa.Ev
set_option linter.all false
open Go
set_option maxRecDepth 4000

theorem f36 {H : Hp} {v : Value} {l : List Int} {h : Int} (hl : SlI H v l) : Scal EE 36 [v, .int .i64 h] H (.bool (decide (h ∈ l))) := by
  refine scal_ok rfl rfl k36 (by simp [c36]) rfl fun m hw => ?_
  have hroom := hl.room
  simp only [go_sem, ↓reduceIte, Nat.reduceEqDiff, reduceCtorEq, Nat.reduceAdd, Nat.reduceLeDiff, Nat.reduceMul, c36]
  refine go_for l.length (fun i s => s.H = H ∧ s.ρ 0 = .val v ∧ s.ρ 1 = .val (.int .i64 h) ∧ s.ρ 5 = .val (.int .i64 i) ∧ h ∉ l.take i) (fun s => s.H = H ∧ h ∉ l) (by simp [upd, ini]) ?_ ?_
  · rintro i s hi ⟨hH, h0, h3, h5, hn⟩
    simp only [go_sem, ↓reduceIte, Nat.reduceEqDiff, reduceCtorEq, Nat.reduceAdd, Nat.reduceLeDiff, Nat.reduceMul, h0, h3, h5, hl.len]
    refine brT.intro (fun h1 => ?_) (fun h1 => ?_) <;> simp only [go_sem, ↓reduceIte, Nat.reduceEqDiff, reduceCtorEq, Nat.reduceAdd, Nat.reduceLeDiff, Nat.reduceMul, h0, h3, h5]
    · have h2 : i < l.length := by simpa using h1
      obtain ⟨id, p, o, ho, hr, hia⟩ := hl.int (List.getElem?_eq_getElem h2)
      simp only [go_sem, ↓reduceIte, Nat.reduceEqDiff, reduceCtorEq, Nat.reduceAdd, Nat.reduceLeDiff, Nat.reduceMul, h0, h3, h5, hia, hH, ho, hr]
      refine brT.intro (fun h4 => ?_) (fun h4 => ?_) <;> simp only [go_sem, ↓reduceIte, Nat.reduceEqDiff, reduceCtorEq, Nat.reduceAdd, Nat.reduceLeDiff, Nat.reduceMul, h0, h3, h5, wrap64 ((i : Int) + 1) (by omega) (by omega)]
      · have : l[i] = h := of_decide_eq_true h4
        simp [← this]
      · exact ⟨h2, by simp, notin_succ h2 hn (of_decide_eq_false h4)⟩
    · have h2 : ¬ i < l.length := by simpa using h1
      rw [List.take_of_length_le (by omega)] at hn
      exact ⟨hH, hn⟩
  · rintro s ⟨hH, hn⟩
    simp only [go_sem, ↓reduceIte, Nat.reduceEqDiff, reduceCtorEq, Nat.reduceAdd, Nat.reduceLeDiff, Nat.reduceMul, hH, hn]

theorem f35 {H : Hp} {v u : Value} {l k : List Int} (hl : SlI H v l) (hk : SlI H u k) : Scal EE 35 [v, u] H (.bool (decide (l = k))) := by
  refine scal_ok rfl rfl k35 (by simp [c35]) rfl fun m hw => ?_
  have hroom := hl.room
  simp only [go_sem, ↓reduceIte, Nat.reduceEqDiff, reduceCtorEq, Nat.reduceAdd, Nat.reduceLeDiff, Nat.reduceMul, c35, hl.len, hk.len]
  refine brT.intro (fun h1 => ?_) (fun h1 => ?_) <;> simp only [go_sem, ↓reduceIte, Nat.reduceEqDiff, reduceCtorEq, Nat.reduceAdd, Nat.reduceLeDiff, Nat.reduceMul]
  · have hlen : l.length = k.length := by simp at h1; omega
    refine go_for l.length (fun i s => s.H = H ∧ s.ρ 0 = .val v ∧ s.ρ 1 = .val u ∧ s.ρ 5 = .val (.int .i64 i) ∧ l.take i = k.take i) (fun s => s.H = H ∧ l = k) (by simp [upd, ini]) ?_ ?_
    · rintro i s hi ⟨hH, h0, h1, h5, hn⟩
      simp only [go_sem, ↓reduceIte, Nat.reduceEqDiff, reduceCtorEq, Nat.reduceAdd, Nat.reduceLeDiff, Nat.reduceMul, h0, h1, h5, hl.len]
      refine brT.intro (fun h2 => ?_) (fun h2 => ?_) <;> simp only [go_sem, ↓reduceIte, Nat.reduceEqDiff, reduceCtorEq, Nat.reduceAdd, Nat.reduceLeDiff, Nat.reduceMul, h0, h1, h5]
      · have h3 : i < l.length := by simpa using h2
        have h4 : i < k.length := by omega
        obtain ⟨id, p, o, ho, hr, hia⟩ := hl.int (List.getElem?_eq_getElem h3)
        obtain ⟨id2, p2, o2, ho2, hr2, hia2⟩ := hk.int (List.getElem?_eq_getElem h4)
        refine go_draw ?_
        simp only [go_sem, ↓reduceIte, Nat.reduceEqDiff, reduceCtorEq, Nat.reduceAdd, Nat.reduceLeDiff, Nat.reduceMul, h0, h1, h5, hia, hH, ho, hr, hia2, ho2, hr2, hw]
        refine ⟨by rfl, brT.intro (fun h6 => ?_) (fun h6 => ?_)⟩ <;> simp only [go_sem, ↓reduceIte, Nat.reduceEqDiff, reduceCtorEq, Nat.reduceAdd, Nat.reduceLeDiff, Nat.reduceMul, h0, h1, h5, wrap64 ((i : Int) + 1) (by omega) (by omega)]
        · refine ⟨h3, by simp, ?_⟩
          rw [List.take_succ_eq_append_getElem h3, List.take_succ_eq_append_getElem h4, hn]
          have : l[i] = k[i] := of_decide_eq_true h6
          rw [this]
        · have : ¬ l[i] = k[i] := of_decide_eq_false h6
          have : ¬ l = k := fun e => by subst e; exact this rfl
          simp [this]
      · have h3 : ¬ i < l.length := by simpa using h2
        rw [List.take_of_length_le (by omega), List.take_of_length_le (by omega)] at hn
        exact ⟨hH, hn⟩
    · rintro s ⟨hH, hn⟩
      simp only [go_sem, ↓reduceIte, Nat.reduceEqDiff, reduceCtorEq, Nat.reduceAdd, Nat.reduceLeDiff, Nat.reduceMul, hH, hn]
  · have : ¬ l = k := fun e => by subst e; simp at h1
    simp [this]


theorem f33 {m : Md} {H : Hp} {v : Value} {l : List Int} (hl : SlU H v l) : Fun EE m 33 [v] H fun r H' => r = .bool (decide ((l.length : Int) > 1048576)) ∧ H' = H := by
  refine fun_f rfl rfl k33 (by simp [c33]) ?_
  simp only [go_sem, ↓reduceIte, Nat.reduceEqDiff, reduceCtorEq, Nat.reduceAdd, Nat.reduceLeDiff, Nat.reduceMul, c33, hl.len]

theorem f68 {m : Md} {H : Hp} {c : Value} {id : Nat} {n : Int} (hc : Cur H c id) (h0 : 0 < n) (h1 : n ≤ 256) (hw : m.wr id = true) : Fun EE m 68 [c, .int .i64 n] H fun r H' => ∃ x : Int, r = .int .i64 x ∧ 0 ≤ x ∧ x < n ∧ CS H H' c id := by
  refine fun_f rfl rfl k68 (by simp [c68]) ?_
  have e1 : decide (n ≤ 0) = false := decide_eq_false (by omega)
  have e2 : decide (n ≤ 256) = true := decide_eq_true h1
  have e3 : n ≠ 0 := by omega
  simp only [go_sem, ↓reduceIte, Nat.reduceEqDiff, reduceCtorEq, Nat.reduceAdd, Nat.reduceLeDiff, Nat.reduceMul, c68, e1, e2]
  refine callT_now (f89 hc hw) fun r H1 ⟨x, e, hx0, hx1, hs⟩ => ?_
  subst e
  simp only [go_sem, ↓reduceIte, Nat.reduceEqDiff, reduceCtorEq, Nat.reduceAdd, Nat.reduceLeDiff, Nat.reduceMul, e3]
  exact ⟨_, rfl, Int.tmod_nonneg _ hx0, by rw [Int.tmod_eq_emod_of_nonneg hx0]; exact Int.emod_lt_of_pos _ h0, hs⟩

theorem f70 {m : Md} {H : Hp} {c : Value} {id : Nat} {n : Int} (hc : Cur H c id) (h0 : 0 < n) (h1 : n ≤ 256) (hw : m.wr id = true) : Fun EE m 70 [c, .int .i64 n] H fun r H' => ∃ b : Bool, r = .bool b ∧ CS H H' c id := by
  refine fun_f rfl rfl k70 (by simp [c70]) ?_
  simp only [go_sem, ↓reduceIte, Nat.reduceEqDiff, reduceCtorEq, Nat.reduceAdd, Nat.reduceLeDiff, Nat.reduceMul, c70]
  refine callT_now (f68 hc h0 h1 hw) fun r H1 ⟨x, e, hx0, hx1, hs⟩ => ?_
  subst e
  simp only [go_sem, ↓reduceIte, Nat.reduceEqDiff, reduceCtorEq, Nat.reduceAdd, Nat.reduceLeDiff, Nat.reduceMul]
  exact ⟨_, rfl, hs⟩

theorem f67 {m : Md} {H : Hp} {v : Value} {l : List Int} (hl : SlU H v l) : Fun EE m 67 [v] H fun r H' => Cur H' r H.length ∧ H <+: H' ∧ H'.length = H.length + 1 := by
  refine fun_f rfl rfl k67 (by simp [c67]) ?_
  have hroom := hl.room
  simp only [go_sem, ↓reduceIte, Nat.reduceEqDiff, reduceCtorEq, Nat.reduceAdd, Nat.reduceLeDiff, Nat.reduceMul, c67, hl.len]
  refine go_for 4000 (fun i s => s.H = H ∧ s.ρ 0 = .val v ∧ s.ρ 4 = .val (.int .i64 i) ∧ ∃ h : Int, s.ρ 3 = .val (.int .i64 h)) (fun s => s.H = H ∧ s.ρ 0 = .val v ∧ ∃ h : Int, s.ρ 3 = .val (.int .i64 h)) ?_ ?_ ?_
  · exact ⟨rfl, by simp [upd, ini], by simp [upd], _, by simp [upd]; rfl⟩
  · rintro i s hi ⟨hH, h0, h4, h, h3⟩
    simp only [go_sem, ↓reduceIte, Nat.reduceEqDiff, reduceCtorEq, Nat.reduceAdd, Nat.reduceLeDiff, Nat.reduceMul, h0, h3, h4, hl.len]
    refine brT.intro (fun c1 => ?_) (fun c1 => ?_) <;> simp only [go_sem, ↓reduceIte, Nat.reduceEqDiff, reduceCtorEq, Nat.reduceAdd, Nat.reduceLeDiff, Nat.reduceMul, c1, h0, h3, h4]
    · refine brT.intro (fun c2 => ?_) (fun c2 => ?_) <;> simp only [go_sem, ↓reduceIte, Nat.reduceEqDiff, reduceCtorEq, Nat.reduceAdd, Nat.reduceLeDiff, Nat.reduceMul, c1, c2, h0, h3, h4]
      · have hi2 : i < l.length := by have := of_decide_eq_true c1; omega
        have hi3 : i < 4000 := by have := of_decide_eq_true c2; omega
        obtain ⟨id, p, o, ho, hr, hia⟩ := hl.byte (List.getElem?_eq_getElem hi2)
        simp only [go_sem, ↓reduceIte, Nat.reduceEqDiff, reduceCtorEq, Nat.reduceAdd, Nat.reduceLeDiff, Nat.reduceMul, h0, h3, h4, hia, hH, ho, hr, wrap64 ((i : Int) + 1) (by omega) (by omega)]
        exact ⟨hi3, by simp, _, rfl⟩
      · exact ⟨hH, h, rfl⟩
    · exact ⟨hH, h, rfl⟩
  · rintro s ⟨hH, h0, h, h3⟩
    have hvc : idsOf v ⊆ List.range H.length := fun j hj => by simpa using hl.ids j hj
    simp only [go_sem, ↓reduceIte, Nat.reduceEqDiff, reduceCtorEq, Nat.reduceAdd, Nat.reduceLeDiff, Nat.reduceMul, h0, h3, hH, hl.vc, exps, fillL, buildK]
    refine ⟨⟨rfl, v, 0, h, l, by simp, hl.pre (List.prefix_append _ _), by omega, hl.ids⟩, List.prefix_append _ _, by simp⟩
end Go.Proofs.Ytdplmjlbkaipiaa.Ev

/- Realms that can be reached: plain, and the program's way to find them. -/
namespace Go.Proofs.Ytdplmjlbkaipiaa.Ev
set_option linter.all false
open Go
set_option maxRecDepth 4000

theorem nodup_le : ∀ (n : Nat) (l : List Int), l.Nodup → (∀ x ∈ l, 0 ≤ x ∧ x < (n : Int)) → l.length ≤ n
  | 0, l, _, h => by
    cases l with
    | nil => simp
    | cons a l => have := h a (by simp); omega
  | n + 1, l, hn, h => by
    by_cases hm : (n : Int) ∈ l
    · have := nodup_le n (l.erase n) (hn.erase _) (fun x hx => by
        have h1 := (hn.mem_erase_iff).1 hx
        have h2 := h x h1.2
        have h3 := h1.1
        omega)
      rw [List.length_erase_of_mem hm] at this
      omega
    · have := nodup_le n l hn (fun x hx => by
        have h2 := h x hx
        have h3 : x ≠ (n : Int) := fun e => hm (e ▸ hx)
        omega)
      omega

theorem inR_iff {x : Int} : inR x = true ↔ 0 ≤ x ∧ x < 8 := by
  simp [inR]

/-- What holds of the realms found so far, of which the first ones are done. -/
structure Gi (l : List Hop) (wo fr : Int) (i : Nat) (gl : List Int) : Prop where
  nd : gl.Nodup
  at_ : ∀ x ∈ gl, inR x = true ∧ x ≠ wo ∧ ∃ n, Rn (Pout l wo) n fr x
  fr_ : fr ∈ gl
  done : ∀ (j : Nat) (a : Int), j < i → gl[j]? = some a → ∀ y, Pout l wo (a, y) → y ∈ gl

theorem Gi.len {l : List Hop} {wo fr : Int} {i : Nat} {gl : List Int} (h : Gi l wo fr i gl) : gl.length ≤ 8 := nodup_le 8 gl h.nd fun x hx => inR_iff.1 (h.at_ x hx).1

theorem Gi.push {l : List Hop} {wo fr : Int} {i : Nat} {gl : List Int} {a x : Int} (h : Gi l wo fr i gl) (hi : i ≤ gl.length) (ha : a ∈ gl) (hx : x ∉ gl) (hr : inR x = true) (hw : x ≠ wo) (hp : (a, x) ∈ l) : Gi l wo fr i (gl ++ [x]) := by
  obtain ⟨_, haw, n, hn⟩ := h.at_ a ha
  refine ⟨?_, fun y hy => ?_, by simp [h.fr_], fun j b hj hb y hy => ?_⟩
  · rw [List.nodup_append]
    refine ⟨h.nd, by simp, fun b hb c hc e => ?_⟩
    rw [List.mem_singleton] at hc
    subst hc e
    exact hx hb
  · rcases List.mem_append.1 hy with hy | hy
    · exact h.at_ y hy
    · rw [List.mem_singleton] at hy
      subst hy
      exact ⟨hr, hw, n + 1, .inr ⟨a, hn, hp, haw, hw⟩⟩
  · rw [List.getElem?_append_left (by omega)] at hb
    exact List.mem_append_left _ (h.done j b hj hb y hy)

theorem Gi.end_ {l : List Hop} {wo fr : Int} {gl : List Int} (h : Gi l wo fr gl.length gl) (x : Int) : x ∈ gl ↔ ∃ n, Rn (Pout l wo) n fr x := by
  suffices hs : ∀ (n : Nat) (x : Int), Rn (Pout l wo) n fr x → x ∈ gl from ⟨fun hx => (h.at_ x hx).2.2, fun ⟨n, hn⟩ => hs n x hn⟩
  clear x
  intro n
  induction n with
  | zero => exact fun x hn => (show fr = x from hn) ▸ h.fr_
  | succ n ih =>
    intro x hn
    rcases hn with hn | ⟨c, hn, hp⟩
    · exact ih x hn
    · obtain ⟨j, hj⟩ := List.getElem?_of_mem (ih c hn)
      exact h.done j c (List.getElem?_eq_some_iff.1 hj).1 hj x hp

end Go.Proofs.Ytdplmjlbkaipiaa.Ev

/- Realms that no way can do without: plain, and the reference's walk. -/
namespace Go.Proofs.Ytdplmjlbkaipiaa.Ev
set_option linter.all false
open Go
set_option maxRecDepth 4000

/-- Some of the first numbers. -/
def selN (p : Int → Bool) (i : Nat) : List Int := ((List.range i).map fun (x : Nat) => (x : Int)).filter p
theorem selN_yes {p : Int → Bool} {i : Nat} (h : p i = true) : selN p (i + 1) = selN p i ++ [(i : Int)] := by
  simp [selN, List.range_succ, h]
theorem selN_no {p : Int → Bool} {i : Nat} (h : p i = false) : selN p (i + 1) = selN p i := by
  simp [selN, List.range_succ, h]
theorem selN_len (p : Int → Bool) (i : Nat) : (selN p i).length ≤ i := by
  unfold selN
  refine Nat.le_trans (List.length_filter_le _ _) ?_
  simp
theorem selN_mem {p : Int → Bool} {i : Nat} {x : Int} : x ∈ selN p i ↔ 0 ≤ x ∧ x < (i : Int) ∧ p x = true := by
  simp only [selN, List.mem_filter, List.mem_map, List.mem_range]
  constructor
  · rintro ⟨⟨a, ha, rfl⟩, hp⟩
    exact ⟨by omega, by omega, hp⟩
  · rintro ⟨h1, h2, h3⟩
    exact ⟨⟨x.toNat, by omega, by omega⟩, h3⟩

/-- More hold of it than before. -/
theorem countP_lt {α : Type} {p q : α → Bool} : ∀ {l : List α}, (∀ x ∈ l, p x = true → q x = true) → (∃ x ∈ l, q x = true ∧ p x = false) → l.countP p < l.countP q
  | [], _, h => by
    obtain ⟨x, hx, _⟩ := h
    simp at hx
  | a :: l, h1, h2 => by
    have hle : l.countP p ≤ l.countP q := List.countP_mono_left fun x hx => h1 x (by simp [hx])
    obtain ⟨x, hx, hq, hp⟩ := h2
    rw [List.countP_cons, List.countP_cons]
    rcases List.mem_cons.1 hx with rfl | hx
    · rw [if_neg (by simp [hp]), if_pos hq]
      omega
    · have := countP_lt (l := l) (fun x hx => h1 x (by simp [hx])) ⟨x, hx, hq, hp⟩
      have ha := h1 a (by simp)
      by_cases h : p a = true
      · rw [if_pos h, if_pos (ha h)]; omega
      · rw [if_neg h]; omega

section
variable {P : Hop → Prop} {to : Int}
end

/-- A row of numbers of its own that is empty as yet. -/
theorem own_new {H : Hp} : SlI (H ++ [[]]) (.slice (some ⟨H.length, 0, some 1⟩) 0 (0 * 1)) [] := .inr ⟨H.length, 0, 0, [], rfl, by simp, by simp, by simp, by simp, fun i a hi => by simp at hi⟩

end Go.Proofs.Ytdplmjlbkaipiaa.Ev

/- The law Must. -/
namespace Go.Proofs.Ytdplmjlbkaipiaa.Ev
set_option linter.all false
open Go
set_option maxRecDepth 4000

end Go.Proofs.Ytdplmjlbkaipiaa.Ev

/- RouteOk, both of them. -/
namespace Go.Proofs.Ytdplmjlbkaipiaa.Ev
set_option linter.all false
open Go
set_option maxRecDepth 4000

end Go.Proofs.Ytdplmjlbkaipiaa.Ev

/- RouteOk: the program's own, and the law. -/
namespace Go.Proofs.Ytdplmjlbkaipiaa.Ev
set_option linter.all false
open Go
set_option maxRecDepth 4000

end Go.Proofs.Ytdplmjlbkaipiaa.Ev

/- What is said of ways: plain. -/
namespace Go.Proofs.Ytdplmjlbkaipiaa.Ev
set_option linter.all false
open Go
set_option maxRecDepth 4000

end Go.Proofs.Ytdplmjlbkaipiaa.Ev

/- Code of the program's functions, as the small machine has it: written by mkcode.py. -/
namespace Go.Proofs.Ytdplmjlbkaipiaa.Ev
set_option linter.all false
open Go
def c7 : CF := ⟨74, (.seq (.reg false [⟨(some 4), .none, (.mov (.c (.bool false))), 0, []⟩]) (.seq (.reg false [⟨(some 5), .none, (.mov (.c (.int .i64 1048576))), 0, []⟩]) (.seq (.reg false [⟨(some 13), .none, (.mov (.t 0)), 0, []⟩, ⟨(some 14), .none, (.mov (.t 5)), 1, []⟩, ⟨(some 15), .none, (.call 15 [(.t 13), (.t 14)]), 2, []⟩, ⟨(some 5), .none, (.mov (.t 15)), 3, []⟩]) (.seq (.seq (.reg false [⟨(some 16), .none, (.mov (.t 5)), 0, []⟩, ⟨(some 17), .none, (.bin .lss (.t 16) (.c (.int .i64 0))), 1, []⟩]) (.cond (.t 17) (.seq (.reg false [⟨(some 4), .none, (.mov (.c (.bool true))), 0, []⟩]) .ret) .skip)) (.seq (.reg false [⟨(some 18), .none, (.mov (.t 0)), 0, []⟩, ⟨(some 19), .none, (.call 17 [(.t 18)]), 1, []⟩, ⟨(some 20), .none, (.mov (.t 1)), 2, []⟩, ⟨(some 21), .none, (.call 31 [(.t 19), (.t 20)]), 3, []⟩, ⟨(some 6), .none, (.mov (.t 21)), 4, []⟩]) (.seq (.reg false [⟨(some 22), .none, (.mov (.t 0)), 0, []⟩, ⟨(some 23), .none, (.call 17 [(.t 22)]), 1, []⟩, ⟨(some 7), .none, (.mov (.t 23)), 2, []⟩]) (.seq (.reg false [⟨(some 24), .none, (.mov (.t 7)), 0, []⟩, ⟨(some 25), .none, (.mov (.t 1)), 1, []⟩, ⟨(some 26), .none, (.call 32 [(.t 24), (.t 25)]), 2, []⟩, ⟨(some 8), .none, (.mov (.t 26)), 3, []⟩]) (.seq (.seq (.reg false [⟨(some 27), .none, (.mov (.t 8)), 0, []⟩, ⟨(some 28), .none, (.mov (.t 6)), 1, []⟩, ⟨(some 29), .none, (.call 23 [(.t 27), (.t 28)]), 2, []⟩, ⟨(some 30), .none, (.un .not (.t 29)), 3, []⟩]) (.cond (.t 30) (.seq (.reg false [⟨(some 4), .none, (.mov (.c (.bool false))), 0, []⟩]) .ret) .skip)) (.seq (.seq (.reg false [⟨(some 31), .none, (.mov (.t 7)), 0, []⟩, ⟨(some 32), .none, (.mov (.t 0)), 1, []⟩, ⟨(some 33), .none, (.call 17 [(.t 32)]), 2, []⟩, ⟨(some 34), .none, (.call 19 [(.t 31), (.t 33)]), 3, []⟩, ⟨(some 35), .none, (.un .not (.t 34)), 4, []⟩]) (.cond (.t 35) (.seq (.reg false [⟨(some 4), .none, (.mov (.c (.bool false))), 0, []⟩]) .ret) .skip)) (.seq (.reg false [⟨(some 9), .none, (.mov (.c (.int .i64 1))), 0, []⟩]) (.seq (.reg false [⟨(some 36), .none, (.mov (.t 7)), 0, []⟩, ⟨(some 37), .none, (.mov (.t 9)), 1, []⟩, ⟨(some 38), .none, (.call 26 [(.t 36), (.t 37)]), 2, []⟩, ⟨(some 9), .none, (.mov (.t 38)), 3, []⟩]) (.seq (.seq (.reg false [⟨(some 39), .none, (.mov (.t 9)), 0, []⟩, ⟨(some 40), .none, (.bin .lss (.t 39) (.c (.int .i64 0))), 1, []⟩, ⟨(some 41), .none, (.mov (.t 40)), 2, []⟩, ⟨(some 42), (.some (41, false)), (.mov (.t 8)), 3, []⟩, ⟨(some 43), (.some (41, false)), (.mov (.t 6)), 4, []⟩, ⟨(some 44), (.some (41, false)), (.call 23 [(.t 42), (.t 43)]), 5, []⟩, ⟨(some 45), (.some (41, false)), (.un .not (.t 44)), 6, []⟩, ⟨(some 46), .none, (.pick (.t 41) (.c (.bool true)) (.t 45)), 7, []⟩]) (.cond (.t 46) (.seq (.reg false [⟨(some 4), .none, (.mov (.c (.bool false))), 0, []⟩]) .ret) .skip)) (.seq (.reg false [⟨(some 10), .none, (.mov (.c (.int .i64 1))), 0, []⟩]) (.seq (.reg false [⟨(some 47), .none, (.mov (.t 8)), 0, []⟩, ⟨(some 48), .none, (.mov (.t 10)), 1, []⟩, ⟨(some 49), .none, (.call 27 [(.t 47), (.t 48)]), 2, []⟩, ⟨(some 10), .none, (.mov (.t 49)), 3, []⟩]) (.seq (.reg false [⟨(some 11), .none, (.mov (.c (.int .i64 1))), 0, []⟩]) (.seq (.reg false [⟨(some 50), .none, (.mov (.t 8)), 0, []⟩, ⟨(some 51), .none, (.mov (.t 11)), 1, []⟩, ⟨(some 52), .none, (.call 28 [(.t 50), (.t 51)]), 2, []⟩, ⟨(some 11), .none, (.mov (.t 52)), 3, []⟩]) (.seq (.seq (.reg false [⟨(some 53), .none, (.mov (.t 11)), 0, []⟩, ⟨(some 54), .none, (.bin .lss (.t 53) (.c (.int .i64 0))), 1, []⟩]) (.cond (.t 54) (.seq (.reg false [⟨(some 4), .none, (.mov (.c (.bool false))), 0, []⟩]) .ret) .skip)) (.seq (.seq (.reg false [⟨(some 55), .none, (.mov (.t 11)), 0, []⟩, ⟨(some 56), .none, (.mov (.t 10)), 1, []⟩, ⟨(some 57), .none, (.bin .neq (.t 55) (.t 56)), 2, []⟩]) (.cond (.t 57) (.seq (.reg false [⟨(some 4), .none, (.mov (.c (.bool false))), 0, []⟩]) .ret) .skip)) (.seq (.reg false [⟨(some 58), .none, (.mov (.t 0)), 0, []⟩, ⟨(some 59), .none, (.call 17 [(.t 58)]), 1, []⟩, ⟨(some 60), .none, (.mov (.t 1)), 2, []⟩, ⟨(some 61), .none, (.call 32 [(.t 59), (.t 60)]), 3, []⟩, ⟨(some 12), .none, (.mov (.t 61)), 4, []⟩]) (.seq (.seq (.reg false [⟨(some 62), .none, (.mov (.t 12)), 0, []⟩, ⟨(some 63), .none, (.mov (.t 6)), 1, []⟩, ⟨(some 64), .none, (.call 23 [(.t 62), (.t 63)]), 2, []⟩, ⟨(some 65), .none, (.un .not (.t 64)), 3, []⟩]) (.cond (.t 65) (.seq (.reg false [⟨(some 4), .none, (.mov (.c (.bool false))), 0, []⟩]) .ret) .skip)) (.seq (.reg false [⟨(some 11), .none, (.mov (.c (.int .i64 1))), 0, []⟩]) (.seq (.reg false [⟨(some 66), .none, (.mov (.t 8)), 0, []⟩, ⟨(some 67), .none, (.mov (.t 11)), 1, []⟩, ⟨(some 68), .none, (.call 28 [(.t 66), (.t 67)]), 2, []⟩, ⟨(some 11), .none, (.mov (.t 68)), 3, []⟩]) (.seq (.seq (.reg false [⟨(some 69), .none, (.mov (.t 11)), 0, []⟩, ⟨(some 70), .none, (.bin .lss (.t 69) (.c (.int .i64 0))), 1, []⟩]) (.cond (.t 70) (.seq (.reg false [⟨(some 4), .none, (.mov (.c (.bool false))), 0, []⟩]) .ret) .skip)) (.seq (.seq (.reg false [⟨(some 71), .none, (.mov (.t 11)), 0, []⟩, ⟨(some 72), .none, (.mov (.t 10)), 1, []⟩, ⟨(some 73), .none, (.bin .neq (.t 71) (.t 72)), 2, []⟩]) (.cond (.t 73) (.seq (.reg false [⟨(some 4), .none, (.mov (.c (.bool false))), 0, []⟩]) .ret) .skip)) (.seq (.reg false [⟨(some 4), .none, (.mov (.c (.bool true))), 0, []⟩]) .ret))))))))))))))))))))))))), [(.t 4)]⟩
theorem k7 : EE.fns 7 = some c7 := by kernel_rfl
def c66 : CF := ⟨7, (.seq (.reg false [⟨(some 2), .none, (.mov (.c (.slice .none 0 0))), 0, []⟩]) (.seq (.reg false [⟨(some 3), .none, (.mov (.t 0)), 0, []⟩, ⟨(some 4), .none, (.call 87 [(.t 3)]), 1, []⟩]) (.seq (.reg false [⟨(some 5), .none, (.mov (.t 0)), 0, []⟩, ⟨(some 6), .none, (.call 88 [(.t 5)]), 1, []⟩, ⟨(some 2), .none, (.mov (.t 6)), 2, []⟩]) .ret))), [(.t 2)]⟩
theorem k66 : EE.fns 66 = some c66 := by kernel_rfl
def c88 : CF := ⟨61, (.seq (.reg false [⟨(some 2), .none, (.mov (.c (.slice .none 0 0))), 0, []⟩]) (.seq (.seq (.reg false [⟨(some 6), .none, (.mov (.t 0)), 0, []⟩, ⟨(some 7), .none, (.lenS (.t 6)), 1, []⟩, ⟨(some 8), .none, (.bin .lss (.t 7) (.c (.int .i64 2))), 2, []⟩]) (.cond (.t 8) (.seq (.reg false [⟨(some 9), .none, (.mov (.t 0)), 0, []⟩, ⟨(some 2), .none, (.mov (.t 9)), 1, []⟩]) .ret) .skip)) (.seq (.seq (.reg false [⟨(some 3), .none, (.mov (.c (.int .i64 1))), 0, []⟩]) (.block 0 (.loop (.seq (.seq (.reg false [⟨(some 10), .none, (.mov (.t 3)), 0, []⟩, ⟨(some 11), .none, (.mov (.t 0)), 1, []⟩, ⟨(some 12), .none, (.lenS (.t 11)), 2, []⟩, ⟨(some 13), .none, (.bin .lss (.t 10) (.t 12)), 3, []⟩]) (.cond (.t 13) .skip (.exit 0))) (.seq (.block 1 (.seq (.reg true [⟨(some 16), .none, (.mov (.t 0)), 0, []⟩, ⟨(some 17), .none, (.mov (.t 3)), 1, []⟩, ⟨(some 18), .none, (.iadr 1 (.t 16) (.t 17)), 2, [0, 1]⟩, ⟨(some 19), .none, (.load 1 false (.t 18)), 3, [2, 0, 1]⟩, ⟨(some 20), .none, (.mov (.t 0)), 4, []⟩, ⟨(some 21), .none, (.mov (.t 3)), 5, []⟩, ⟨(some 22), .none, (.bin .sub (.t 21) (.c (.int .i64 1))), 6, [5]⟩, ⟨(some 23), .none, (.iadr 1 (.t 20) (.t 22)), 7, [4, 6, 5]⟩, ⟨(some 24), .none, (.load 1 false (.t 23)), 8, [7, 4, 6, 5]⟩, ⟨(some 25), .none, (.bin .eql (.t 19) (.t 24)), 9, [3, 2, 0, 1, 8, 7, 4, 6, 5]⟩]) (.cond (.t 25) (.seq (.reg false [⟨(some 26), .none, (.mov (.t 0)), 0, []⟩, ⟨(some 27), .none, (.mov (.t 3)), 1, []⟩, ⟨(some 28), .none, (.slc 1 (.t 26) (.some (.t 27)) .none), 2, []⟩, ⟨(some 4), .none, (.mov (.t 28)), 3, []⟩]) (.seq (.seq (.reg false [⟨(some 5), .none, (.mov (.c (.int .i64 1))), 0, []⟩]) (.block 2 (.loop (.seq (.seq (.reg false [⟨(some 29), .none, (.mov (.t 5)), 0, []⟩, ⟨(some 30), .none, (.mov (.t 4)), 1, []⟩, ⟨(some 31), .none, (.lenS (.t 30)), 2, []⟩, ⟨(some 32), .none, (.bin .lss (.t 29) (.t 31)), 3, []⟩]) (.cond (.t 32) .skip (.exit 2))) (.seq (.block 3 (.seq (.reg true [⟨(some 35), .none, (.mov (.t 4)), 0, []⟩, ⟨(some 36), .none, (.mov (.t 5)), 1, []⟩, ⟨(some 37), .none, (.iadr 1 (.t 35) (.t 36)), 2, [0, 1]⟩, ⟨(some 38), .none, (.load 1 false (.t 37)), 3, [2, 0, 1]⟩, ⟨(some 39), .none, (.mov (.t 4)), 4, []⟩, ⟨(some 40), .none, (.mov (.t 5)), 5, []⟩, ⟨(some 41), .none, (.bin .sub (.t 40) (.c (.int .i64 1))), 6, [5]⟩, ⟨(some 42), .none, (.iadr 1 (.t 39) (.t 41)), 7, [4, 6, 5]⟩, ⟨(some 43), .none, (.load 1 false (.t 42)), 8, [7, 4, 6, 5]⟩, ⟨(some 44), .none, (.bin .neq (.t 38) (.t 43)), 9, [3, 2, 0, 1, 8, 7, 4, 6, 5]⟩]) (.cond (.t 44) (.seq (.reg false [⟨(some 45), .none, (.mov (.t 0)), 0, []⟩, ⟨(some 46), .none, (.mov (.t 3)), 1, []⟩, ⟨(some 47), .none, (.mov (.t 4)), 2, []⟩, ⟨(some 48), .none, (.mov (.t 5)), 3, []⟩, ⟨(some 49), .none, (.iadr 1 (.t 47) (.t 48)), 4, []⟩, ⟨(some 50), .none, (.load 1 false (.t 49)), 5, []⟩, ⟨(some 51), .none, (.iadr 1 (.t 45) (.t 46)), 6, []⟩, ⟨.none, .none, (.store 1 (.t 51) (.t 50)), 7, []⟩]) (.reg false [⟨(some 52), .none, (.mov (.t 3)), 0, []⟩, ⟨(some 53), .none, (.bin .add (.t 52) (.c (.int .i64 1))), 1, []⟩, ⟨(some 3), .none, (.mov (.t 53)), 2, []⟩])) .skip))) (.reg false [⟨(some 33), .none, (.mov (.t 5)), 0, []⟩, ⟨(some 34), .none, (.bin .add (.t 33) (.c (.int .i64 1))), 1, []⟩, ⟨(some 5), .none, (.mov (.t 34)), 2, []⟩])))))) (.seq (.reg false [⟨(some 54), .none, (.mov (.t 0)), 0, []⟩, ⟨(some 55), .none, (.mov (.t 3)), 1, []⟩, ⟨(some 56), .none, (.slc 1 (.t 54) (.some (.t 55)) .none), 2, []⟩, ⟨.none, .none, (.clr 1 [(.int .i64 0)] (.t 56)), 3, []⟩]) (.seq (.reg false [⟨(some 57), .none, (.mov (.t 0)), 0, []⟩, ⟨(some 58), .none, (.mov (.t 3)), 1, []⟩, ⟨(some 59), .none, (.slc 1 (.t 57) .none (.some (.t 58))), 2, []⟩, ⟨(some 2), .none, (.mov (.t 59)), 3, []⟩]) .ret)))) .skip))) (.reg false [⟨(some 14), .none, (.mov (.t 3)), 0, []⟩, ⟨(some 15), .none, (.bin .add (.t 14) (.c (.int .i64 1))), 1, []⟩, ⟨(some 3), .none, (.mov (.t 15)), 2, []⟩])))))) (.seq (.reg false [⟨(some 60), .none, (.mov (.t 0)), 0, []⟩, ⟨(some 2), .none, (.mov (.t 60)), 1, []⟩]) .ret)))), [(.t 2)]⟩
theorem k88 : EE.fns 88 = some c88 := by kernel_rfl
end Go.Proofs.Ytdplmjlbkaipiaa.Ev

/- slices.Sort in this program: the shelf's contract. -/
namespace Go.Proofs.Ytdplmjlbkaipiaa.Ev
set_option linter.all false
open Go Go.Shelf
def lays189_ren : Go.Shelf.Ren := ⟨fun | 189 => 87 | 125 => 96 | 257 => 95 | 128 => 106 | 129 => 107 | 294 => 97 | 295 => 98 | 296 => 99 | 297 => 100 | 298 => 101 | 299 => 102 | 216 => 103 | 300 => 104 | 301 => 105 | 328 => 108 | 329 => 109 | 330 => 110 | 331 => 111 | 332 => 112 | 215 => 113 | 343 => 114 | n => n, fun | 28 => 29 | 3 => 3 | 46 => 101 | 0 => 0 | 51 => 112 | 53 => 114 | 4 => 4 | 183 => 104 | 182 => 103 | 131 => 109 | 5 => 5 | 9 => 9 | 218 => 115 | 222 => 119 | 228 => 121 | 229 => 122 | n => n, fun | n => n⟩
theorem lays189 : Go.Proofs.Lays.n189 Try.prog lays189_ren where
  mixed := by kernel_rfl
  f125 := Try.func96.trans (congrArg some (by kernel_rfl))
  f128 := Try.func106.trans (congrArg some (by kernel_rfl))
  f129 := Try.func107.trans (congrArg some (by kernel_rfl))
  f189 := Try.func87.trans (congrArg some (by kernel_rfl))
  f215 := Try.func113.trans (congrArg some (by kernel_rfl))
  f216 := Try.func103.trans (congrArg some (by kernel_rfl))
  f257 := Try.func95.trans (congrArg some (by kernel_rfl))
  f294 := Try.func97.trans (congrArg some (by kernel_rfl))
  f295 := Try.func98.trans (congrArg some (by kernel_rfl))
  f296 := Try.func99.trans (congrArg some (by kernel_rfl))
  f297 := Try.func100.trans (congrArg some (by kernel_rfl))
  f298 := Try.func101.trans (congrArg some (by kernel_rfl))
  f299 := Try.func102.trans (congrArg some (by kernel_rfl))
  f300 := Try.func104.trans (congrArg some (by kernel_rfl))
  f301 := Try.func105.trans (congrArg some (by kernel_rfl))
  f328 := Try.func108.trans (congrArg some (by kernel_rfl))
  f329 := Try.func109.trans (congrArg some (by kernel_rfl))
  f330 := Try.func110.trans (congrArg some (by kernel_rfl))
  f331 := Try.func111.trans (congrArg some (by kernel_rfl))
  f332 := Try.func112.trans (congrArg some (by kernel_rfl))
  f343 := Try.func114.trans (congrArg some (by kernel_rfl))
  t0 := Try.underlying0
  a0 := Try.isAgg0
  z0 := Try.sizeOf0
  v0 := Try.zeroValue0
  t3 := Try.underlying3
  a3 := Try.isAgg3
  z3 := Try.sizeOf3
  v3 := Try.zeroValue3
  t4 := Try.underlying4
  a4 := Try.isAgg4
  z4 := Try.sizeOf4
  v4 := Try.zeroValue4
  t5 := Try.underlying5
  a5 := Try.isAgg5
  z5 := Try.sizeOf5
  v5 := Try.zeroValue5
  t9 := Try.underlying9
  a9 := Try.isAgg9
  z9 := Try.sizeOf9
  v9 := Try.zeroValue9
  t28 := Try.underlying29
  a28 := Try.isAgg29
  z28 := Try.sizeOf29
  v28 := Try.zeroValue29
  t46 := Try.underlying101
  a46 := Try.isAgg101
  z46 := Try.sizeOf101
  v46 := Try.zeroValue101
  t51 := Try.underlying112
  a51 := Try.isAgg112
  z51 := Try.sizeOf112
  v51 := Try.zeroValue112
  t53 := Try.underlying114
  a53 := Try.isAgg114
  z53 := Try.sizeOf114
  v53 := Try.zeroValue114
  t131 := Try.underlying109
  a131 := Try.isAgg109
  z131 := Try.sizeOf109
  v131 := Try.zeroValue109
  t182 := Try.underlying103
  a182 := Try.isAgg103
  z182 := Try.sizeOf103
  v182 := Try.zeroValue103
  t183 := Try.underlying104
  a183 := Try.isAgg104
  z183 := Try.sizeOf104
  v183 := Try.zeroValue104
  t218 := Try.underlying115
  a218 := Try.isAgg115
  z218 := Try.sizeOf115
  v218 := Try.zeroValue115
  t222 := Try.underlying119
  a222 := Try.isAgg119
  z222 := Try.sizeOf119
  v222 := Try.zeroValue119
  t228 := Try.underlying121
  a228 := Try.isAgg121
  z228 := Try.sizeOf121
  v228 := Try.zeroValue121
  t229 := Try.underlying122
  a229 := Try.isAgg122
  z229 := Try.sizeOf122
  v229 := Try.zeroValue122
theorem sortOk : SortOk Try.prog 87 :=
  ⟨⟨Try.f87, Try.func87, rfl, by kernel_rfl⟩, fun blk off cap zs w h hb hl => Any.slices_Sort_int lays189 blk off cap zs w h hb hl, fun p cap w => Any.slices_Sort_int_none lays189 p cap w⟩
end Go.Proofs.Ytdplmjlbkaipiaa.Ev

/- The calls that are told by themselves: slices.Sort alone. -/
namespace Go.Proofs.Ytdplmjlbkaipiaa.Ev
set_option linter.all false
open Go
theorem prim_EE : ∀ f p, EE.prim f = some p → f = 87 ∧ p = sortP := fun f p h => by
  have h : (if f = 87 then some sortP else none) = some p := h
  split at h
  · rename_i e; exact ⟨e, (Option.some.inj h).symm⟩
  · cases h
end Go.Proofs.Ytdplmjlbkaipiaa.Ev

/- slices.Compact and the program's 'risen'. -/
namespace Go.Proofs.Ytdplmjlbkaipiaa.Ev
set_option linter.all false
open Go
set_option maxRecDepth 4000

def Cmp (H : Hp) (v : Value) (l : List Int) (r : Value) (H' : Hp) : Prop := SlI H' r l ∧ (∀ N, OwnS N v → OwnS N r) ∧ (∀ j, j ∉ idsOf v → H'[j]? = H[j]?) ∧ H'.length = H.length ∧ ∀ j ∈ idsOf r, j ∈ idsOf v

theorem Cmp.same {H : Hp} {v : Value} {l : List Int} (h : SlI H v l) : Cmp H v l v H := ⟨h, fun _ h => h, fun _ _ => rfl, rfl, fun _ h => h⟩

theorem cmpL_two {l : List Int} (h : l.length < 2) : cmpL l = l := by
  match l, h with
  | [], _ => rfl
  | [a], _ => rfl

theorem f88 {m : Md} {H : Hp} {v : Value} {l : List Int} (hl : SlI H v l) (hle : l.length ≤ 1048576) (hw : ∀ id ∈ idsOf v, m.wr id = true) : Fun EE m 88 [v] H fun r H' => Cmp H v (cmpL l) r H' := by
  refine fun_f rfl rfl k88 (by simp [c88]) ?_
  simp only [go_sem, ↓reduceIte, Nat.reduceEqDiff, reduceCtorEq, Nat.reduceAdd, Nat.reduceLeDiff, Nat.reduceMul, c88, hl.len]
  refine brT.intro (fun q1 => ?_) (fun q1 => ?_) <;> simp only [go_sem, ↓reduceIte, Nat.reduceEqDiff, reduceCtorEq, Nat.reduceAdd, Nat.reduceLeDiff, Nat.reduceMul]
  · have : l.length < 2 := by have := of_decide_eq_true q1; omega
    rw [cmpL_two this]
    exact Cmp.same hl
  have hl2 : ¬ l.length < 2 := by have := of_decide_eq_false q1; omega
  refine go_for (l.length - 1) (fun i s => s.H = H ∧ s.ρ 0 = .val v ∧ s.ρ 3 = .val (.int .i64 ((i + 1 : Nat) : Int)) ∧ cmpL (l.take (i + 1)) = l.take (i + 1))
    (fun s => s.H = H ∧ s.ρ 0 = .val v ∧ cmpL l = l) ?_ ?_ ?_
  · refine ⟨rfl, by simp [upd, ini], by simp [upd], ?_⟩
    exact cmpL_two (by simp; omega)
  · rintro i s hi ⟨hH, h0, h3, hc⟩
    simp only [go_sem, ↓reduceIte, Nat.reduceEqDiff, reduceCtorEq, Nat.reduceAdd, Nat.reduceLeDiff, Nat.reduceMul, h0, h3, hl.len]
    refine brT.intro (fun c1 => ?_) (fun c1 => ?_) <;> simp only [go_sem, ↓reduceIte, Nat.reduceEqDiff, reduceCtorEq, Nat.reduceAdd, Nat.reduceLeDiff, Nat.reduceMul, h0, h3]
    · have hi2 : i + 1 < l.length := by have := of_decide_eq_true c1; omega
      obtain ⟨id, p, o, ho, hr, hia⟩ := hl.int (List.getElem?_eq_getElem hi2)
      obtain ⟨id', p', o', ho', hr', hia'⟩ := hl.int (List.getElem?_eq_getElem (show i < l.length by omega))
      have hsub : IntKind.i64.wrap (((i + 1 : Nat) : Int) - 1) = (i : Int) := by rw [wrap64 _ (by omega) (by omega)]; omega
      refine go_draw ?_
      simp only [go_sem, ↓reduceIte, Nat.reduceEqDiff, reduceCtorEq, Nat.reduceAdd, Nat.reduceLeDiff, Nat.reduceMul, h0, h3, hia, hH, ho, hr, hsub, hia', ho', hr']
      refine ⟨by rfl, ?_⟩
      refine brT.intro (fun c2 => ?_) (fun c2 => ?_) <;> simp only [go_sem, ↓reduceIte, Nat.reduceEqDiff, reduceCtorEq, Nat.reduceAdd, Nat.reduceLeDiff, Nat.reduceMul, h0, h3, hH]
      · have heq : l[i + 1] = l[i] := of_decide_eq_true c2
        obtain ⟨v4, d1, d2, d3⟩ := hl.drop (i := i + 1) (by omega)
        rw [d1]
        rotate_left
        · rfl
        · rfl
        simp only [go_sem, ↓reduceIte, Nat.reduceEqDiff, reduceCtorEq, Nat.reduceAdd, Nat.reduceLeDiff, Nat.reduceMul, h0, h3, hH]
        have hcl : cmpL (l.take (i + 2)) = l.take (i + 1) := by
          rw [cmpL_take hi2, if_pos heq.symm, hc]
        refine go_for (l.length - (i + 1) - 1) (fun j s' => s'.ρ 0 = .val v ∧ s'.ρ 4 = .val v4 ∧ s'.ρ 5 = .val (.int .i64 ((j + 1 : Nat) : Int)) ∧ ∃ (k : Nat) (L : List Int), s'.ρ 3 = .val (.int .i64 k) ∧ SlI s'.H v L ∧ L.length = l.length ∧ k ≤ i + 1 + j ∧ L.take k = cmpL (l.take (i + 1 + j + 1)) ∧ L.drop (i + 1 + j) = l.drop (i + 1 + j) ∧ (∀ j, j ∉ idsOf v → s'.H[j]? = H[j]?) ∧ s'.H.length = H.length)
          (fun s' => s'.ρ 0 = .val v ∧ ∃ (k : Nat) (L : List Int), s'.ρ 3 = .val (.int .i64 k) ∧ SlI s'.H v L ∧ L.length = l.length ∧ k ≤ l.length ∧ L.take k = cmpL l ∧ (∀ j, j ∉ idsOf v → s'.H[j]? = H[j]?) ∧ s'.H.length = H.length) ?_ ?_ ?_
        · exact ⟨by simp [upd, h0], by simp [upd], by simp [upd], i + 1, l, by simp [upd, h3], hl, rfl, by omega, by rw [show i + 1 + 0 + 1 = i + 2 by omega, hcl], rfl, fun _ _ => rfl, rfl⟩
        · rintro j s' hj ⟨k0, k4, k5, k, L, k3, ks, kL, kk, kt, kd, kf, kn⟩
          have k4s := d3 _ _ kL ks
          have hlen4 : (L.drop (i + 1)).length = l.length - (i + 1) := by simp [kL]
          simp only [go_sem, ↓reduceIte, Nat.reduceEqDiff, reduceCtorEq, Nat.reduceAdd, Nat.reduceLeDiff, Nat.reduceMul, k0, k3, k4, k5, k4s.len, hlen4]
          refine brT.intro (fun e1 => ?_) (fun e1 => ?_) <;> simp only [go_sem, ↓reduceIte, Nat.reduceEqDiff, reduceCtorEq, Nat.reduceAdd, Nat.reduceLeDiff, Nat.reduceMul, k0, k3, k4, k5]
          · have hj2 : i + 1 + j + 1 < l.length := by have := of_decide_eq_true e1; omega
            have g1 : (L.drop (i + 1))[j + 1]? = some l[i + 1 + j + 1] := by
              have := congrArg (fun (x : List Int) => x[1]?) kd
              simp only [List.getElem?_drop] at this
              rw [List.getElem?_drop, show i + 1 + (j + 1) = i + 1 + j + 1 by omega, this, List.getElem?_eq_getElem hj2]
            have g0 : (L.drop (i + 1))[j]? = some l[i + 1 + j] := by
              have := congrArg (fun (x : List Int) => x[0]?) kd
              simp only [List.getElem?_drop, Nat.add_zero] at this
              rw [List.getElem?_drop, this, List.getElem?_eq_getElem (by omega)]
            obtain ⟨ida, pa, oa, hoa, hra, hiaa⟩ := k4s.int g1
            obtain ⟨idb, pb, ob, hob, hrb, hiab⟩ := k4s.int g0
            have hsub : IntKind.i64.wrap (((j + 1 : Nat) : Int) - 1) = (j : Int) := by rw [wrap64 _ (by omega) (by omega)]; omega
            have hct := cmpL_take (l := l) (k := i + 1 + j) hj2
            have kd' : L.drop (i + 1 + (j + 1)) = l.drop (i + 1 + (j + 1)) := by
              have := congrArg (List.drop 1) kd
              simpa [List.drop_drop, Nat.add_assoc] using this
            refine go_draw ?_
            simp only [go_sem, ↓reduceIte, Nat.reduceEqDiff, reduceCtorEq, Nat.reduceAdd, Nat.reduceLeDiff, Nat.reduceMul, k0, k3, k4, k5, hiaa, hoa, hra, hsub, hiab, hob, hrb]
            refine ⟨by rfl, ?_⟩
            refine brT.intro (fun e2 => ?_) (fun e2 => ?_) <;> simp only [go_sem, ↓reduceIte, Nat.reduceEqDiff, reduceCtorEq, Nat.reduceAdd, Nat.reduceLeDiff, Nat.reduceMul, k0, k3, k4, k5, wrap64 (((j + 1 : Nat) : Int) + 1) (by omega) (by omega)]
            · have heq2 : l[i + 1 + j] = l[i + 1 + j + 1] := (of_decide_eq_true e2).symm
              exact ⟨by omega, by simp, k, L, rfl, ks, kL, by omega, by rw [kt, show i + 1 + (j + 1) + 1 = i + 1 + j + 2 by omega, hct, if_pos heq2], kd', kf, kn⟩
            · have hne2 : ¬ l[i + 1 + j] = l[i + 1 + j + 1] := fun e => of_decide_eq_false e2 e.symm
              obtain ⟨idc, pc, oc, hoc, hpc, hidc, hiac, hst⟩ := ks.store (i := k) (by omega)
              have hwid := hw idc (by rw [hidc]; simp)
              simp only [go_sem, ↓reduceIte, Nat.reduceEqDiff, reduceCtorEq, Nat.reduceAdd, Nat.reduceLeDiff, Nat.reduceMul, k0, k3, k4, k5, hiaa, hoa, hra, hiac, hoc, hpc, hwid, wrap64 (((j + 1 : Nat) : Int) + 1) (by omega) (by omega), wrap64 ((k : Int) + 1) (by omega) (by omega)]
              refine ⟨by omega, by simp, k + 1, L.set k l[i + 1 + j + 1], by simp, hst _ _ rfl rfl, by simp [kL], by omega, ?_, ?_, fun q hq => ?_, by simp [kn]⟩
              · rw [show i + 1 + (j + 1) + 1 = i + 1 + j + 2 by omega, hct, if_neg hne2, ← kt]
                refine List.ext_getElem? fun q => ?_
                have hkl : (L.take k).length = k := by rw [List.length_take]; omega
                rcases Nat.lt_trichotomy q k with hq | hq | hq
                · rw [List.getElem?_take, if_pos (by omega), List.getElem?_set_ne (by omega), List.getElem?_append_left (by omega), List.getElem?_take, if_pos hq]
                · subst hq
                  rw [List.getElem?_take, if_pos (by omega), List.getElem?_set_self (by omega), List.getElem?_append_right (by omega), hkl, Nat.sub_self]
                  rfl
                · rw [List.getElem?_take, if_neg (by omega), List.getElem?_eq_none (by simp; omega)]
              · rw [List.drop_set_of_lt (by omega)]
                exact kd'
              · rw [List.getElem?_set_ne]
                · exact kf q hq
                · rw [hidc] at hq
                  simp at hq
                  omega
          · have hj2 : ¬ i + 1 + j + 1 < l.length := by have := of_decide_eq_false e1; omega
            exact ⟨k, L, rfl, ks, kL, by omega, by rw [kt, List.take_of_length_le (by omega)], kf, kn⟩
        · rintro s' ⟨k0, k, L, k3, ks, kL, kk, kt, kf, kn⟩
          obtain ⟨v3, v2, H2, g1, g2, g3, g4, g5, g6, g7, g8⟩ := ks.cut (m := m) (i := k) (by omega) (zero := [.int .i64 0]) rfl rfl hw
          simp only [go_sem, ↓reduceIte, Nat.reduceEqDiff, reduceCtorEq, Nat.reduceAdd, Nat.reduceLeDiff, Nat.reduceMul, k0, k3]
          rw [g1]
          rotate_left
          · rfl
          · rfl
          simp only [go_sem, ↓reduceIte, Nat.reduceEqDiff, reduceCtorEq, Nat.reduceAdd, Nat.reduceLeDiff, Nat.reduceMul, k0, k3]
          rw [g2]
          rotate_left
          · rfl
          · rfl
          simp only [go_sem, ↓reduceIte, Nat.reduceEqDiff, reduceCtorEq, Nat.reduceAdd, Nat.reduceLeDiff, Nat.reduceMul, k0, k3]
          rw [g3]
          rotate_left
          · rfl
          · rfl
          simp only [go_sem, ↓reduceIte, Nat.reduceEqDiff, reduceCtorEq, Nat.reduceAdd, Nat.reduceLeDiff, Nat.reduceMul, k0, k3]
          rw [kt] at g4
          exact ⟨g4, g5, fun q hq => (g6 q hq).trans (kf q hq), g7.trans kn, g8⟩
      · have hne : ¬ l[i] = l[i + 1] := fun e => of_decide_eq_false c2 e.symm
        simp only [go_sem, ↓reduceIte, Nat.reduceEqDiff, reduceCtorEq, Nat.reduceAdd, Nat.reduceLeDiff, Nat.reduceMul, h0, h3, hH, wrap64 (((i + 1 : Nat) : Int) + 1) (by omega) (by omega)]
        refine ⟨by omega, by simp, ?_⟩
        rw [show i + 1 + 1 = i + 2 by omega, cmpL_take hi2, if_neg hne, hc, List.take_succ_eq_append_getElem hi2]
    · have hi2 : ¬ i + 1 < l.length := by have := of_decide_eq_false c1; omega
      rw [List.take_of_length_le (by omega)] at hc
      exact ⟨hH, hc⟩
  · rintro s ⟨hH, h0, hc⟩
    simp only [go_sem, ↓reduceIte, Nat.reduceEqDiff, reduceCtorEq, Nat.reduceAdd, Nat.reduceLeDiff, Nat.reduceMul, h0, hH]
    rw [hc]
    exact Cmp.same hl

/-- 'risen': sorted, each once. -/
theorem f66 {m : Md} {H : Hp} {v : Value} {l : List Int} (hl : SlI H v l) (hle : l.length ≤ 1048576) (hw : ∀ id ∈ idsOf v, m.wr id = true) : Fun EE m 66 [v] H fun r H' => Cmp H v (rsn l) r H' := by
  refine fun_f rfl rfl k66 (by simp [c66]) ?_
  simp only [go_sem, ↓reduceIte, Nat.reduceEqDiff, reduceCtorEq, Nat.reduceAdd, Nat.reduceLeDiff, Nat.reduceMul, c66]
  refine callT_now (Sl.sort (F := 87) rfl hl hle hw) fun r1 H1 ⟨e1, s1, f1, n1⟩ => ?_
  subst e1
  simp only [go_sem, ↓reduceIte, Nat.reduceEqDiff, reduceCtorEq, Nat.reduceAdd, Nat.reduceLeDiff, Nat.reduceMul]
  refine callT_now (f88 s1 (by rw [srt_len]; exact hle) hw) fun r2 H2 ⟨s2, o2, f2, n2, i2⟩ => ?_
  simp only [go_sem, ↓reduceIte, Nat.reduceEqDiff, reduceCtorEq, Nat.reduceAdd, Nat.reduceLeDiff, Nat.reduceMul]
  exact ⟨s2, o2, fun j hj => (f2 j hj).trans (f1 j hj), n2.trans n1, i2⟩
end Go.Proofs.Ytdplmjlbkaipiaa.Ev

/- The law Trusts. -/
namespace Go.Proofs.Ytdplmjlbkaipiaa.Ev
set_option linter.all false
open Go
set_option maxRecDepth 4000

theorem pre_keep {H H1 H2 : Hp} (h : H <+: H1) (hk : ∀ j, j < H.length → H2[j]? = H1[j]?) (hl : H1.length ≤ H2.length) : H <+: H2 := by
  rw [List.prefix_iff_eq_take]
  refine List.ext_getElem? fun j => ?_
  rw [List.getElem?_take]
  split
  · rename_i hj
    rw [hk j hj, pre_get h hj]
  · rw [List.getElem?_eq_none (by omega)]

theorem FreshS.cmp {H H1 H2 : Hp} {v r : Value} {g k : List Int} (h : FreshS eI 1 H v H1 g) (hc : Cmp H1 v k r H2) : FreshS eI 1 H r H2 k := by
  obtain ⟨p1, s1, o1⟩ := h
  obtain ⟨s2, o2, f2, n2, _⟩ := hc
  exact ⟨pre_keep p1 (fun j hj => f2 j (own_notin o1 hj)) (by omega), s2, o2 _ o1⟩

theorem selN_asc (p : Int → Bool) (i : Nat) : Asc (selN p i) := by
  unfold Asc selN
  refine List.Pairwise.filter _ ?_
  rw [List.pairwise_map]
  exact List.pairwise_lt_range.imp fun h => by omega

end Go.Proofs.Ytdplmjlbkaipiaa.Ev

/- Draws: hops, ways. -/
namespace Go.Proofs.Ytdplmjlbkaipiaa.Ev
set_option linter.all false
open Go
set_option maxRecDepth 4000

/-- A draw's state: older rows as they were, but for the cursor's. -/
def Dr (H H' : Hp) (c : Value) (id : Nat) : Prop := Cur H' c id ∧ (∀ j, j < H.length → j ≠ id → H'[j]? = H[j]?) ∧ H.length ≤ H'.length
theorem Dr.cs {H H' H'' : Hp} {c : Value} {id : Nat} (h : Dr H H' c id) (k : CS H' H'' c id) : Dr H H'' c id := ⟨k.1, fun j hj hne => (k.2.1 j hne).trans (h.2.1 j hj hne), by rw [k.2.2]; exact h.2.2⟩
theorem Dr.refl {H : Hp} {c : Value} {id : Nat} (h : Cur H c id) : Dr H H c id := ⟨h, fun _ _ _ => rfl, Nat.le_refl _⟩
theorem Dr.trans {H H' H'' : Hp} {c : Value} {id : Nat} (h : Dr H H' c id) (k : Dr H' H'' c id) : Dr H H'' c id := ⟨k.1, fun j hj hne => (k.2.1 j (Nat.lt_of_lt_of_le hj h.2.2) hne).trans (h.2.1 j hj hne), Nat.le_trans h.2.2 k.2.2⟩
theorem Dr.grow {H H' : Hp} {c : Value} {id : Nat} (h : Cur H c id) (hk : ∀ j, j < H.length → H'[j]? = H[j]?) (hl : H.length ≤ H'.length) : Dr H H' c id := ⟨h.keep fun j hj => hk j (Nat.lt_of_le_of_lt hj h.lt), fun j hj _ => hk j hj, hl⟩
theorem Sl.dr {α : Type} {R : α → List Value → Prop} {esz : Nat} {H H' : Hp} {v c : Value} {l : List α} {id : Nat} (h : Sl R esz H v l) (hd : Dr H H' c id) (hid : id ∉ idsOf v) : Sl R esz H' v l :=
  have hi := h.ids
  h.frame (fun _ _ _ h => h) fun i off e ln cap hv => hd.2.1 i (hi i (by subst hv; simp [idsOf])) (fun e2 => hid (by subst hv; subst e2; simp [idsOf]))
theorem own_not {id N : Nat} {v : Value} (h : OwnS N v) (hl : id < N) : id ∉ idsOf v := own_notin h hl
theorem Dr.app {H H' H'' : Hp} {c w : Value} {id : Nat} (h : Dr H H' c id) (hl : id < H.length) (ho : OwnS H.length w) (hf : ∀ j, j < H'.length → j ∉ idsOf w → H''[j]? = H'[j]?) (hl2 : H'.length ≤ H''.length) : Dr H H'' c id :=
  have key : ∀ j, j < H.length → H''[j]? = H'[j]? := fun j hj => hf j (Nat.lt_of_lt_of_le hj h.2.2) (own_not ho hj)
  ⟨h.1.keep fun j hj => key j (by omega), fun j hj hne => (key j hj).trans (h.2.1 j hj hne), Nat.le_trans h.2.2 hl2⟩

end Go.Proofs.Ytdplmjlbkaipiaa.Ev

/- Groups: what is told of their numbers. -/
namespace Go.Proofs.Ytdplmjlbkaipiaa.Ev
set_option linter.all false
open Go
set_option maxRecDepth 4000

def RiseP (l : List Int) : Prop := ∀ (i : Nat) (a b : Int), l[i]? = some a → l[i + 1]? = some b → a < b
def inT (top : Int) (x : Int) : Prop := 0 ≤ x ∧ x ≤ top
def RiseT (l : List Int) (top : Int) : Prop := (∀ x ∈ l, inT top x) ∧ RiseP l
open Classical in
noncomputable def riseT (l : List Int) (top : Int) : Bool := decide (RiseT l top)
open Classical in
noncomputable def riseP (l : List Int) : Bool := decide (RiseP l)
theorem rise_ge {l : List Int} {top : Int} (h : RiseT l top) : ∀ (i : Nat) a, l[i]? = some a → (i : Int) ≤ a := by
  intro i
  induction i with
  | zero => intro a ha; have := (h.1 a (List.mem_of_getElem? ha)).1; omega
  | succ i ih =>
    intro b hb
    have hl := (List.getElem?_eq_some_iff.1 hb).1
    have hg := List.getElem?_eq_getElem (show i < l.length by omega)
    have := ih _ hg
    have := h.2 i _ b hg hb
    omega
theorem rise_len {l : List Int} {top : Int} (h : RiseT l top) (ht : 0 ≤ top + 1) : (l.length : Int) ≤ top + 1 := by
  by_cases h0 : l.length = 0
  · omega
  · have hg := List.getElem?_eq_getElem (show l.length - 1 < l.length by omega)
    have := rise_ge h _ _ hg
    have := (h.1 _ (List.mem_of_getElem? hg)).2
    omega

theorem f91 {H : Hp} {a b c : Int} : Scal EE 91 [.int .i64 a, .int .i64 b, .int .i64 c] H (.bool (decide (a ≥ b) && decide (a ≤ c))) := by
  refine scal_ok rfl rfl k91 (by simp [c91]) rfl fun m hw => ?_
  simp only [go_sem, ↓reduceIte, Nat.reduceEqDiff, reduceCtorEq, Nat.reduceAdd, Nat.reduceLeDiff, Nat.reduceMul, c91]
  refine brT.intro (fun h1 => ?_) (fun h1 => ?_) <;> simp only [go_sem, ↓reduceIte, Nat.reduceEqDiff, reduceCtorEq, Nat.reduceAdd, Nat.reduceLeDiff, Nat.reduceMul, h1]
theorem c91' {m : Md} {draw : Bool} {s : St} {d : Option Nat} {ts : List Tk} {Q : Ex → St → Prop} {a b c : Int} (hw : Wr m s.H) :
    callT EE m draw 91 (some [.int .i64 a, .int .i64 b, .int .i64 c]) s d ts Q = go EE m ts { s with ρ := upd s.ρ d (.val (.bool (decide (a ≥ b) && decide (a ≤ c)))) } Q := callT_at f91 rfl hw

theorem rise_step {l : List Int} {i : Nat} (h : RiseP (l.take (i + 1))) (hi : i + 1 < l.length) (hlt : l[i] < l[i + 1]) : RiseP (l.take (i + 1 + 1)) := fun j a b ha hb => by
  rw [List.getElem?_take] at ha hb
  split at hb
  · rw [if_pos (by omega)] at ha
    by_cases hj : j = i
    · subst hj
      rw [List.getElem?_eq_getElem (by omega)] at ha hb
      cases ha; cases hb
      exact hlt
    · exact h j a b (by rw [List.getElem?_take, if_pos (by omega)]; exact ha) (by rw [List.getElem?_take, if_pos (by omega)]; exact hb)
  · cases hb
theorem rise_one (l : List Int) (n : Nat) (hn : n ≤ 1) : RiseP (l.take n) := fun j a b ha hb => by
  rw [List.getElem?_take] at hb
  split at hb
  · omega
  · cases hb

theorem f72 {H : Hp} {v : Value} {l : List Int} {top : Int} (hl : SlI H v l) : Scal EE 72 [v, .int .i64 top] H (.bool (riseT l top)) := by
  refine scal_ok rfl rfl k72 (by simp [c72]) rfl fun m hw => ?_
  have hroom := hl.room
  simp only [go_sem, ↓reduceIte, Nat.reduceEqDiff, reduceCtorEq, Nat.reduceAdd, Nat.reduceLeDiff, Nat.reduceMul, c72]
  refine go_for l.length (fun i s => s.H = H ∧ s.ρ 0 = .val v ∧ s.ρ 1 = .val (.int .i64 top) ∧ s.ρ 5 = .val (.int .i64 i) ∧ (∀ x ∈ l.take i, inT top x) ∧ RiseP (l.take i)) (fun s => s.H = H ∧ RiseT l top) (by simpa [upd, ini] using rise_one l 0 (by omega)) ?_ ?_
  · rintro i s hi ⟨hH, h0, h3, h5, hn, hp⟩
    simp only [go_sem, ↓reduceIte, Nat.reduceEqDiff, reduceCtorEq, Nat.reduceAdd, Nat.reduceLeDiff, Nat.reduceMul, h0, h3, h5, hl.len]
    refine brT.intro (fun h1 => ?_) (fun h1 => ?_) <;> simp only [go_sem, ↓reduceIte, Nat.reduceEqDiff, reduceCtorEq, Nat.reduceAdd, Nat.reduceLeDiff, Nat.reduceMul, h0, h3, h5]
    · have h2 : i < l.length := by simpa using h1
      have hgi := List.getElem?_eq_getElem h2
      obtain ⟨id, p, o, ho, hr, hia⟩ := hl.int hgi
      have allS : inT top l[i] → ∀ x ∈ l.take (i + 1), inT top x := fun h x hx => by
        rw [List.take_succ_eq_append_getElem h2] at hx
        rcases List.mem_append.1 hx with hx | hx
        · exact hn x hx
        · rw [List.mem_singleton.1 hx]; exact h
      refine go_draw ?_
      simp only [go_sem, ↓reduceIte, Nat.reduceEqDiff, reduceCtorEq, Nat.reduceAdd, Nat.reduceLeDiff, Nat.reduceMul, h0, h3, h5, hia, hH, ho, hr, c91', hw]
      refine brT.intro (fun h4 => ?_) (fun h4 => ?_) <;> simp only [go_sem, ↓reduceIte, Nat.reduceEqDiff, reduceCtorEq, Nat.reduceAdd, Nat.reduceLeDiff, Nat.reduceMul, h0, h3, h5, h4, hia, hH, ho, hr, c91', hw]
      · have h4' : inT top l[i] := by simp at h4; exact h4
        refine brT.intro (fun h6 => ?_) (fun h6 => ?_) <;> simp only [go_sem, ↓reduceIte, Nat.reduceEqDiff, reduceCtorEq, Nat.reduceAdd, Nat.reduceLeDiff, Nat.reduceMul, h0, h3, h5, h4, h6, hia, hH, ho, hr, c91', hw]
        · have h7 : 0 < i := by simpa using h6
          obtain ⟨k, rfl⟩ : ∃ k, i = k + 1 := ⟨i - 1, by omega⟩
          have e1 : IntKind.i64.wrap (((k + 1 : Nat) : Int) - 1) = (k : Int) := by rw [wrap64 _ (by omega) (by omega)]; omega
          have hgk := List.getElem?_eq_getElem (show k < l.length by omega)
          obtain ⟨id2, p2, o2, ho2, hr2, hia2⟩ := hl.int hgk
          simp only [go_sem, ↓reduceIte, Nat.reduceEqDiff, reduceCtorEq, Nat.reduceAdd, Nat.reduceLeDiff, Nat.reduceMul, h0, h3, h5, h4, h6, hia, hH, ho, hr, e1, hia2, ho2, hr2]
          refine ⟨by rfl, brT.intro (fun h8 => ?_) (fun h8 => ?_)⟩ <;> simp only [go_sem, ↓reduceIte, Nat.reduceEqDiff, reduceCtorEq, Nat.reduceAdd, Nat.reduceLeDiff, Nat.reduceMul, h0, h3, h5, wrap64 (((k + 1 : Nat) : Int) + 1) (by omega) (by omega)]
          · have : ¬ RiseT l top := fun h => by have := h.2 k _ _ hgk hgi; simp at h8; omega
            simp [riseT, this]
          · exact ⟨h2, by simp, allS h4', rise_step hp h2 (by simp at h8; exact h8)⟩
        · have h7 : ¬ 0 < i := by simpa using h6
          simp only [go_sem, ↓reduceIte, Nat.reduceEqDiff, reduceCtorEq, Nat.reduceAdd, Nat.reduceLeDiff, Nat.reduceMul, h0, h3, h5, h6, wrap64 ((i : Int) + 1) (by omega) (by omega)]
          exact ⟨by rfl, h2, by simp, allS h4', rise_one l _ (by omega)⟩
      · refine ⟨by rfl, ?_⟩
        have : ¬ RiseT l top := fun h => by
          have := h.1 _ (List.mem_of_getElem? hgi)
          unfold inT at this
          simp at h4
          omega
        simp [riseT, this]
    · have h2 : ¬ i < l.length := by simpa using h1
      rw [List.take_of_length_le (by omega)] at hn hp
      exact ⟨hH, hn, hp⟩
  · rintro s ⟨hH, hn⟩
    simp only [go_sem, ↓reduceIte, Nat.reduceEqDiff, reduceCtorEq, Nat.reduceAdd, Nat.reduceLeDiff, Nat.reduceMul, hH]
    simp [riseT, hn]

theorem f75 {H : Hp} {v : Value} {l : List Int} (hl : SlI H v l) : Scal EE 75 [v] H (.bool (riseP l)) := by
  refine scal_ok rfl rfl k75 (by simp [c75]) rfl fun m hw => ?_
  have hroom := hl.room
  simp only [go_sem, ↓reduceIte, Nat.reduceEqDiff, reduceCtorEq, Nat.reduceAdd, Nat.reduceLeDiff, Nat.reduceMul, c75]
  refine go_for l.length (fun i s => s.H = H ∧ s.ρ 0 = .val v ∧ s.ρ 3 = .val (.int .i64 (i + 1 : Nat)) ∧ RiseP (l.take (i + 1))) (fun s => s.H = H ∧ RiseP l) (by simpa [upd, ini] using rise_one l 1 (by omega)) ?_ ?_
  · rintro i s hi ⟨hH, h0, h3, hn⟩
    simp only [go_sem, ↓reduceIte, Nat.reduceEqDiff, reduceCtorEq, Nat.reduceAdd, Nat.reduceLeDiff, Nat.reduceMul, h0, h3, hl.len]
    refine brT.intro (fun h1 => ?_) (fun h1 => ?_) <;> simp only [go_sem, ↓reduceIte, Nat.reduceEqDiff, reduceCtorEq, Nat.reduceAdd, Nat.reduceLeDiff, Nat.reduceMul, h0, h3]
    · have h2 : i + 1 < l.length := by simp at h1; omega
      have hgi := List.getElem?_eq_getElem h2
      have hgk := List.getElem?_eq_getElem (show i < l.length by omega)
      obtain ⟨id, p, o, ho, hr, hia⟩ := hl.int hgi
      obtain ⟨id2, p2, o2, ho2, hr2, hia2⟩ := hl.int hgk
      have e1 : IntKind.i64.wrap (((i + 1 : Nat) : Int) - 1) = (i : Int) := by rw [wrap64 _ (by omega) (by omega)]; omega
      refine go_draw ?_
      simp only [go_sem, ↓reduceIte, Nat.reduceEqDiff, reduceCtorEq, Nat.reduceAdd, Nat.reduceLeDiff, Nat.reduceMul, h0, h3, hia, hH, ho, hr, e1, hia2, ho2, hr2]
      refine ⟨by rfl, brT.intro (fun h4 => ?_) (fun h4 => ?_)⟩ <;> simp only [go_sem, ↓reduceIte, Nat.reduceEqDiff, reduceCtorEq, Nat.reduceAdd, Nat.reduceLeDiff, Nat.reduceMul, h0, h3, wrap64 (((i + 1 : Nat) : Int) + 1) (by omega) (by omega)]
      · have : ¬ RiseP l := fun h => by have := h i _ _ hgk hgi; simp at h4; omega
        simp [riseP, this]
      · exact ⟨by omega, by simp, rise_step hn h2 (by simp at h4; exact h4)⟩
    · have h2 : ¬ i + 1 < l.length := by simp at h1; omega
      rw [List.take_of_length_le (by omega)] at hn
      exact ⟨hH, hn⟩
  · rintro s ⟨hH, hn⟩
    simp only [go_sem, ↓reduceIte, Nat.reduceEqDiff, reduceCtorEq, Nat.reduceAdd, Nat.reduceLeDiff, Nat.reduceMul, hH]
    simp [riseP, hn]

theorem f92 {H : Hp} {a : Int} : Scal EE 92 [.int .i64 a] H (.bool (decide (a ≥ 0) && decide (a ≤ 30))) := by
  refine scal_ok rfl rfl k92 (by simp [c92]) rfl fun m hw => ?_
  simp only [go_sem, ↓reduceIte, Nat.reduceEqDiff, reduceCtorEq, Nat.reduceAdd, Nat.reduceLeDiff, Nat.reduceMul, c92, c78', hw]

theorem f76 {H : Hp} {v : Value} {l : List Int} {most : Nat} {k : Nat} {caps : Array Value} {p : Int → Bool} (hl : SlI H v l) (hk : ∀ n, Scal EE k ([.int .i64 n] ++ caps.toList) H (.bool (p n))) :
    Scal EE 76 [v, .int .i64 most, .func (.func k) #[] caps] H (.bool (l.all p && decide (l.length ≤ most))) := by
  refine scal_ok rfl rfl k76 (by simp [c76]) rfl fun m hw => ?_
  have hroom := hl.room
  simp only [go_sem, ↓reduceIte, Nat.reduceEqDiff, reduceCtorEq, Nat.reduceAdd, Nat.reduceLeDiff, Nat.reduceMul, c76, hl.len]
  refine go_for l.length (fun i s => s.H = H ∧ s.ρ 0 = .val v ∧ s.ρ 1 = .val (.int .i64 most) ∧ s.ρ 2 = .val (.func (.func k) #[] caps) ∧ s.ρ 9 = .val v ∧ s.ρ 10 = .val (.int .i64 l.length) ∧ s.ρ 11 = .val (.int .i64 i) ∧ (l.take i).all p = true)
    (fun s => s.H = H ∧ s.ρ 0 = .val v ∧ s.ρ 1 = .val (.int .i64 most) ∧ l.all p = true) (by simp [upd, ini]) ?_ ?_
  · rintro i s hi ⟨hH, h0, h1, h2, h9, h10, h11, hn⟩
    simp only [go_sem, ↓reduceIte, Nat.reduceEqDiff, reduceCtorEq, Nat.reduceAdd, Nat.reduceLeDiff, Nat.reduceMul, h0, h1, h2, h9, h10, h11]
    refine brT.intro (fun h3 => ?_) (fun h3 => ?_) <;> simp only [go_sem, ↓reduceIte, Nat.reduceEqDiff, reduceCtorEq, Nat.reduceAdd, Nat.reduceLeDiff, Nat.reduceMul, h0, h1, h2, h9, h10, h11]
    · have h4 : i < l.length := by simpa using h3
      have hgi := List.getElem?_eq_getElem h4
      obtain ⟨id, q, o, ho, hr, hia⟩ := hl.int hgi
      have ak := fun {m draw s d ts Q} => callT_at (m := m) (draw := draw) (s := s) (d := d) (ts := ts) (Q := Q) (hk l[i])
      simp only [List.singleton_append] at ak
      simp only [go_sem, ↓reduceIte, Nat.reduceEqDiff, reduceCtorEq, Nat.reduceAdd, Nat.reduceLeDiff, Nat.reduceMul, h0, h1, h2, h9, h10, h11, hia, hH, ho, hr, ak, hw]
      refine brT.intro (fun h5 => ?_) (fun h5 => ?_) <;> simp only [go_sem, ↓reduceIte, Nat.reduceEqDiff, reduceCtorEq, Nat.reduceAdd, Nat.reduceLeDiff, Nat.reduceMul, h0, h1, h2, h9, h10, h11, wrap64 ((i : Int) + 1) (by omega) (by omega)]
      · refine ⟨h4, by simp, ?_⟩
        rw [List.take_succ_eq_append_getElem h4, List.all_append, hn]
        simp [h5]
      · have : l.all p = false := List.all_eq_false.2 ⟨_, List.getElem_mem h4, by simp [h5]⟩
        simp [this]
    · have h4 : ¬ i < l.length := by simpa using h3
      rw [List.take_of_length_le (by omega)] at hn
      exact ⟨hH, hn⟩
  · rintro s ⟨hH, h0, h1, hn⟩
    simp only [go_sem, ↓reduceIte, Nat.reduceEqDiff, reduceCtorEq, Nat.reduceAdd, Nat.reduceLeDiff, Nat.reduceMul, h0, h1, hH, hl.len, hn]
    simp
end Go.Proofs.Ytdplmjlbkaipiaa.Ev

/- GroupsOk, both of them, and the law. -/
namespace Go.Proofs.Ytdplmjlbkaipiaa.Ev
set_option linter.all false
open Go
set_option maxRecDepth 4000

abbrev Group := List Int × List Int
def RG (H : Hp) (g : Group) (cs : List Value) : Prop := ∃ u s, cs = [u, s] ∧ SlI H u g.1 ∧ SlI H s g.2
abbrev SlG (H : Hp) (v : Value) (l : List Group) : Prop := Sl (RG H) 2 H v l
theorem RG.pre {H H' : Hp} {g : Group} {cs : List Value} (h : RG H g cs) (hp : H <+: H') : RG H' g cs := by
  obtain ⟨u, s, e, a, b⟩ := h
  exact ⟨u, s, e, a.pre hp, b.pre hp⟩
theorem Sl.preG {H H' : Hp} {v : Value} {l : List Group} (h : SlG H v l) (hp : H <+: H') : SlG H' v l := (h.pre hp).frame (fun _ _ _ h => h.pre hp) fun _ _ _ _ _ _ => rfl
theorem Sl.group {H : Hp} {v : Value} {l : List Group} (h : SlG H v l) {i : Nat} {g : Group} (hi : l[i]? = some g) : ∃ id p o u s, H[id]? = some o ∧ o[p]? = some u ∧ o[p + 1]? = some s ∧ (o.drop p).take 2 = [u, s] ∧ p + 2 ≤ o.length ∧ SlI H u g.1 ∧ SlI H s g.2 ∧
    ∀ (s : St) (x y : X), exv s.ρ x = some v → exv s.ρ y = some (.int .i64 i) → iadrK s 2 x y = some (.val (.pointer (some ⟨id, p, some o.length⟩)), s) := by
  obtain ⟨id, p, o, ho, ⟨u, s, e, a, b⟩, hp, hia⟩ := h.elem hi
  exact ⟨id, p, o, u, s, ho, by simpa using getElem?_of_take e (j := 0) (by omega), by simpa using getElem?_of_take e (j := 1) (by omega), e, hp, a, b, hia⟩

theorem riseT_t {l : List Int} {top : Int} : riseT l top = true ↔ RiseT l top := by simp [riseT]
theorem riseT_f {l : List Int} {top : Int} : riseT l top = false ↔ ¬ RiseT l top := by simp [riseT]
theorem riseP_t {l : List Int} : riseP l = true ↔ RiseP l := by simp [riseP]
def GrIn (g : List Group) (i : Nat) : Prop := ∀ x, g[i]? = some x → RiseT x.1 30 ∧ RiseT x.2 (g.length - 1)
open Classical in
noncomputable def groupsOk (g : List Group) : Bool := decide (g.length ≤ 8 ∧ ∀ i, GrIn g i)

theorem f39 {H : Hp} {v : Value} {l : List Group} (hl : SlG H v l) : Scal EE 39 [v] H (.bool (groupsOk l)) := by
  refine scal_ok rfl rfl k39 (by simp [c39]) rfl fun m hw => ?_
  have hroom := hl.room
  simp only [go_sem, ↓reduceIte, Nat.reduceEqDiff, reduceCtorEq, Nat.reduceAdd, Nat.reduceLeDiff, Nat.reduceMul, c39, hl.len]
  refine brT.intro (fun h1 => ?_) (fun h1 => ?_) <;> simp only [go_sem, ↓reduceIte, Nat.reduceEqDiff, reduceCtorEq, Nat.reduceAdd, Nat.reduceLeDiff, Nat.reduceMul]
  · have : ¬ l.length ≤ 8 := by simp at h1; omega
    simp [groupsOk, this]
  have h30 : l.length ≤ 8 := by simp at h1; omega
  refine go_for l.length (fun i s => s.H = H ∧ s.ρ 0 = .val v ∧ s.ρ 3 = .val (.int .i64 i) ∧ ∀ j, j < i → GrIn l j) (fun s => s.H = H ∧ ∀ j, GrIn l j) (by simp [upd, ini]) ?_ ?_
  · rintro i s hi ⟨hH, h0, h3, hn⟩
    simp only [go_sem, ↓reduceIte, Nat.reduceEqDiff, reduceCtorEq, Nat.reduceAdd, Nat.reduceLeDiff, Nat.reduceMul, h0, h3, hl.len]
    refine brT.intro (fun h2 => ?_) (fun h2 => ?_) <;> simp only [go_sem, ↓reduceIte, Nat.reduceEqDiff, reduceCtorEq, Nat.reduceAdd, Nat.reduceLeDiff, Nat.reduceMul, h0, h3]
    · have h4 : i < l.length := by simpa using h2
      have hgi := List.getElem?_eq_getElem h4
      obtain ⟨id, p, o, u, z, ho, g0, g1, hr, hp, hu, hz, hia⟩ := hl.group hgi
      have a72 := fun {m draw s d ts Q} => callT_at (m := m) (draw := draw) (s := s) (d := d) (ts := ts) (Q := Q) (f72 (top := 30) hu)
      have b72 := fun {m draw s d ts Q} => callT_at (m := m) (draw := draw) (s := s) (d := d) (ts := ts) (Q := Q) (f72 (top := (l.length : Int) - 1) hz)
      have bad : ∀ {x : Bool}, (GrIn l i → x = true) → x = false → false = groupsOk l := fun hx hf => by
        have : ¬ ∀ j, GrIn l j := fun hj => by have := hx (hj i); rw [hf] at this; cases this
        simp [groupsOk, this]
      simp only [go_sem, ↓reduceIte, Nat.reduceEqDiff, reduceCtorEq, Nat.reduceAdd, Nat.reduceLeDiff, Nat.reduceMul, h0, h3, hia, hH, ho, hp, hr, g0, g1, a72, hw]
      refine brT.intro (fun h5 => ?_) (fun h5 => ?_) <;> simp only [go_sem, ↓reduceIte, Nat.reduceEqDiff, reduceCtorEq, Nat.reduceAdd, Nat.reduceLeDiff, Nat.reduceMul, h0, h3, h5, hia, hH, ho, hp, hr, g0, g1, hl.len, wrap64 ((l.length : Int) - 1) (by omega) (by omega), b72, hw]
      · refine brT.intro (fun h6 => ?_) (fun h6 => ?_) <;> simp only [go_sem, ↓reduceIte, Nat.reduceEqDiff, reduceCtorEq, Nat.reduceAdd, Nat.reduceLeDiff, Nat.reduceMul, h0, h3, wrap64 ((i : Int) + 1) (by omega) (by omega)]
        · refine ⟨h4, by simp, fun j hj => ?_⟩
          by_cases hji : j < i
          · exact hn j hji
          · have : j = i := by omega
            subst this
            intro h hh
            rw [hgi] at hh
            cases hh
            exact ⟨riseT_t.1 h5, riseT_t.1 h6⟩
        · exact bad (fun h => absurd (h _ hgi).2 (riseT_f.1 h6)) rfl
      · exact bad (fun h => absurd (h _ hgi).1 (riseT_f.1 h5)) rfl
    · have h4 : ¬ i < l.length := by simpa using h2
      refine ⟨hH, fun j h hj => ?_⟩
      have := (List.getElem?_eq_some_iff.1 hj).1
      exact hn j (by omega) h hj
  · rintro s ⟨hH, hn⟩
    simp only [go_sem, ↓reduceIte, Nat.reduceEqDiff, reduceCtorEq, Nat.reduceAdd, Nat.reduceLeDiff, Nat.reduceMul, hH]
    simp [groupsOk, hn, h30]

theorem f77 {H : Hp} {v : Value} {l : List Group} {n : Int} {id : Nat} (hl : SlG H v l) (hid : H[id]? = some [v]) : Scal EE 77 [.int .i64 n, .pointer (some ⟨id, 0, some 1⟩)] H (.bool (decide (n ≥ 0) && decide (n ≤ (l.length : Int) - 1))) := by
  refine scal_ok rfl rfl k77 (by simp [c77]) rfl fun m hw => ?_
  have hroom := hl.room
  simp only [go_sem, ↓reduceIte, Nat.reduceEqDiff, reduceCtorEq, Nat.reduceAdd, Nat.reduceLeDiff, Nat.reduceMul, c77, hid, hl.len, wrap64 ((l.length : Int) - 1) (by omega) (by omega), c78', hw]

theorem all_set {l : List Int} {top : Int} (ht : 0 ≤ top + 1) : (riseP l = true ∧ (l.all (fun n => decide (n ≥ 0) && decide (n ≤ top)) && decide ((l.length : Int) ≤ top + 1)) = true) ↔ RiseT l top := by
  have e : (l.all (fun n => decide (n ≥ 0) && decide (n ≤ top)) = true) ↔ ∀ x ∈ l, inT top x := by simp [List.all_eq_true, inT]
  rw [Bool.and_eq_true, e]
  constructor
  · rintro ⟨a, b, _⟩
    exact ⟨b, riseP_t.1 a⟩
  · intro h
    exact ⟨riseP_t.2 h.2, h.1, decide_eq_true (rise_len h ht)⟩

theorem f74 {H : Hp} {v : Value} {l : List Int} (hl : SlI H v l) : Scal EE 74 [v] H (.bool (riseT l 30)) := by
  refine scal_ok rfl rfl k74 (by simp [c74]) rfl fun m hw => ?_
  have a75 := fun {m draw s d ts Q} => callT_at (m := m) (draw := draw) (s := s) (d := d) (ts := ts) (Q := Q) (f75 hl)
  have a76 := fun {m draw s d ts Q} => callT_at (m := m) (draw := draw) (s := s) (d := d) (ts := ts) (Q := Q) (f76 (most := 31) (k := 92) (caps := #[]) (p := fun n => decide (n ≥ 0) && decide (n ≤ 30)) hl (fun n => f92))
  have hs := all_set (l := l) (top := 30) (by omega)
  simp only [go_sem, ↓reduceIte, Nat.reduceEqDiff, reduceCtorEq, Nat.reduceAdd, Nat.reduceLeDiff, Nat.reduceMul, c74, a75, hw]
  refine brT.intro (fun h1 => ?_) (fun h1 => ?_) <;> simp only [go_sem, ↓reduceIte, Nat.reduceEqDiff, reduceCtorEq, Nat.reduceAdd, Nat.reduceLeDiff, Nat.reduceMul, h1]
  · have a76' : ∀ {m draw s d ts Q}, s.H = H → Wr m H → callT EE m draw 76 (some [v, .int .i64 31, .func (.func 92) #[] #[]]) s d ts Q = _ := fun {m draw s d ts Q} => a76 (m := m) (draw := draw) (s := s) (d := d) (ts := ts) (Q := Q)
    simp only [go_sem, ↓reduceIte, Nat.reduceEqDiff, reduceCtorEq, Nat.reduceAdd, Nat.reduceLeDiff, Nat.reduceMul, a76', hw]
    rw [h1] at hs
    rw [Bool.eq_iff_iff, riseT_t, ← hs]
    simp
    omega
  · have : ¬ RiseT l 30 := fun h => by have := hs.2 h; rw [h1] at this; simp at this
    simp [riseT, this]
end Go.Proofs.Ytdplmjlbkaipiaa.Ev

/- GroupsOk: the program's own; rows of groups; the law. -/
namespace Go.Proofs.Ytdplmjlbkaipiaa.Ev
set_option linter.all false
open Go
set_option maxRecDepth 4000

theorem f41 {H : Hp} {v : Value} {l : List Group} (hl : SlG H v l) : Scal EE 41 [v] H (.bool (groupsOk l)) := by
  have hroom := hl.room
  have hv1 : vc v = some [v] := by rcases hl with ⟨rfl, _⟩ | ⟨_, _, _, _, rfl, _⟩ <;> rfl
  have hp : H <+: H ++ [[v]] := List.prefix_append _ _
  have hl0 := hl
  have hl := hl.preG hp
  refine scal_ok rfl rfl k41 (by simp [c41]) rfl fun m hw => ?_
  have hw := hw.pre hp
  have hid : (H ++ [[v]])[H.length]? = some [v] := by simp
  simp only [go_sem, ↓reduceIte, Nat.reduceEqDiff, reduceCtorEq, Nat.reduceAdd, Nat.reduceLeDiff, Nat.reduceMul, c41, hv1, hid, hl.len]
  refine go_for l.length (fun i s => s.H = H ++ [[v]] ∧ s.ρ 1 = .val (.pointer (some ⟨H.length, 0, some 1⟩)) ∧ s.ρ 5 = .val v ∧ s.ρ 6 = .val (.int .i64 l.length) ∧ s.ρ 7 = .val (.int .i64 i) ∧ ∀ j, j < i → GrIn l j)
    (fun s => s.H = H ++ [[v]] ∧ s.ρ 1 = .val (.pointer (some ⟨H.length, 0, some 1⟩)) ∧ ∀ j, GrIn l j) (by simp [upd, ini]) ?_ ?_
  · rintro i s hi ⟨hH, h0, h3, h9, h10, hn⟩
    simp only [go_sem, ↓reduceIte, Nat.reduceEqDiff, reduceCtorEq, Nat.reduceAdd, Nat.reduceLeDiff, Nat.reduceMul, h0, h3, h9, h10]
    refine brT.intro (fun h2 => ?_) (fun h2 => ?_) <;> simp only [go_sem, ↓reduceIte, Nat.reduceEqDiff, reduceCtorEq, Nat.reduceAdd, Nat.reduceLeDiff, Nat.reduceMul, h0, h3, h9, h10]
    · have h4 : i < l.length := by simpa using h2
      have hgi := List.getElem?_eq_getElem h4
      obtain ⟨id, p, o, u, z, ho, g0, g1, hr, hp, hu, hz, hia⟩ := hl.group hgi
      have a74 := fun {m draw s d ts Q} => callT_at (m := m) (draw := draw) (s := s) (d := d) (ts := ts) (Q := Q) (f74 hu)
      have a75 := fun {m draw s d ts Q} => callT_at (m := m) (draw := draw) (s := s) (d := d) (ts := ts) (Q := Q) (f75 hz)
      have a76 := fun {m draw s d ts Q} => callT_at (m := m) (draw := draw) (s := s) (d := d) (ts := ts) (Q := Q) (f76 (most := l.length) (k := 77) (caps := #[.pointer (some ⟨H.length, 0, some 1⟩)]) (p := fun n => decide (n ≥ 0) && decide (n ≤ (l.length : Int) - 1)) hz (fun n => f77 hl hid))
      have hs := all_set (l := l[i].2) (top := (l.length : Int) - 1) (by omega)
      have bad : ∀ {x : Bool}, (GrIn l i → x = true) → x = false → false = groupsOk l := fun hx hf => by
        have : ¬ ∀ j, GrIn l j := fun hj => by have := hx (hj i); rw [hf] at this; cases this
        simp [groupsOk, this]
      simp only [go_sem, ↓reduceIte, Nat.reduceEqDiff, reduceCtorEq, Nat.reduceAdd, Nat.reduceLeDiff, Nat.reduceMul, h0, h3, h9, h10, hia, hH, ho, hp, hr, g0, g1, a74, hw]
      refine brT.intro (fun h5 => ?_) (fun h5 => ?_) <;> simp only [go_sem, ↓reduceIte, Nat.reduceEqDiff, reduceCtorEq, Nat.reduceAdd, Nat.reduceLeDiff, Nat.reduceMul, h0, h3, h9, h10, h5, hia, hH, ho, hp, hr, g0, g1, a75, hw]
      · refine brT.intro (fun h6 => ?_) (fun h6 => ?_) <;> simp only [go_sem, ↓reduceIte, Nat.reduceEqDiff, reduceCtorEq, Nat.reduceAdd, Nat.reduceLeDiff, Nat.reduceMul, h0, h3, h9, h10, h5, h6, hia, hH, ho, hp, hr, g0, g1, hid, hl.len, a76, hw]
        · rw [h6] at hs
          refine brT.intro (fun h7 => ?_) (fun h7 => ?_) <;> simp only [go_sem, ↓reduceIte, Nat.reduceEqDiff, reduceCtorEq, Nat.reduceAdd, Nat.reduceLeDiff, Nat.reduceMul, h0, h3, h9, h10, wrap64 ((i : Int) + 1) (by omega) (by omega)]
          · refine ⟨h4, by simp, fun j hj => ?_⟩
            by_cases hji : j < i
            · exact hn j hji
            · have : j = i := by omega
              subst this
              intro h hh
              rw [hgi] at hh
              cases hh
              refine ⟨riseT_t.1 h5, hs.1 ⟨rfl, ?_⟩⟩
              simp at h7 ⊢
              exact ⟨h7.1, by omega⟩
          · refine ⟨bad (fun h => ?_) h7, by simp⟩
            have := (hs.2 (h _ hgi).2).2
            simp at this ⊢
            exact ⟨this.1, by omega⟩
        · refine ⟨bad (fun h => ?_) h6, by simp⟩
          exact riseP_t.2 (h _ hgi).2.2
      · exact ⟨bad (fun h => riseT_t.2 (h _ hgi).1) h5, by simp⟩
    · have h4 : ¬ i < l.length := by simpa using h2
      refine ⟨hH, fun j h hj => ?_⟩
      have := (List.getElem?_eq_some_iff.1 hj).1
      exact hn j (by omega) h hj
  · rintro s ⟨hH, h0, hn⟩
    simp only [go_sem, ↓reduceIte, Nat.reduceEqDiff, reduceCtorEq, Nat.reduceAdd, Nat.reduceLeDiff, Nat.reduceMul, hH, h0, hid, hl.len]
    refine ⟨?_, by simp⟩
    rw [Bool.eq_iff_iff]
    simp [groupsOk, hn]
    omega

end Go.Proofs.Ytdplmjlbkaipiaa.Ev

/- Rows of groups: size, copy, likeness; the law GroupsOk. -/
namespace Go.Proofs.Ytdplmjlbkaipiaa.Ev
set_option linter.all false
open Go
set_option maxRecDepth 4000

end Go.Proofs.Ytdplmjlbkaipiaa.Ev

/- A copy of a row of groups; the law GroupsOk. -/
namespace Go.Proofs.Ytdplmjlbkaipiaa.Ev
set_option linter.all false
open Go
set_option maxRecDepth 4000

theorem callT_nr {E : Env} {m : Md} {f : Nat} {vs : List Value} {H : Hp} {P : Value → Hp → Prop} {draw : Bool} {s : St} {d : Option Nat} {ts : List Tk} {Q : Ex → St → Prop} (h : ∀ m' : Md, Wr m' H → m'.nr = m.nr → Fun E m' f vs H P) (hH : s.H = H) (hw : Wr m H)
    (hq : ∀ r H', P r H' → go E m ts { s with H := H', ρ := upd s.ρ d (.val r) } Q) : callT E m draw f (some vs) s d ts Q := by
  subst hH
  exact callT_ok (fun m' _ h2 h3 _ => h m' h2 h3) hw hq

/-- Groups whose numbers don't lie in a row. -/
def RGx (x : Nat) (H : Hp) (g : Group) (cs : List Value) : Prop := ∃ u s, cs = [u, s] ∧ SlI H u g.1 ∧ SlI H s g.2 ∧ x ∉ idsOf u ∧ x ∉ idsOf s
theorem RGx.rg {x : Nat} {H : Hp} {g : Group} {cs : List Value} (h : RGx x H g cs) : RG H g cs := by
  obtain ⟨u, s, e, a, b, _⟩ := h
  exact ⟨u, s, e, a, b⟩
theorem RGx.pre {x : Nat} {H H' : Hp} {g : Group} {cs : List Value} (h : RGx x H g cs) (hp : H <+: H') : RGx x H' g cs := by
  obtain ⟨u, s, e, a, b, c⟩ := h
  exact ⟨u, s, e, a.pre hp, b.pre hp, c⟩
theorem RGx.set {x : Nat} {H : Hp} {r : List Value} {g : Group} {cs : List Value} (h : RGx x H g cs) : RGx x (H.set x r) g cs := by
  obtain ⟨u, s, e, a, b, c, d⟩ := h
  exact ⟨u, s, e, a.other c, b.other d, c, d⟩
end Go.Proofs.Ytdplmjlbkaipiaa.Ev

/- Groups below groups: plain. -/
namespace Go.Proofs.Ytdplmjlbkaipiaa.Ev
set_option linter.all false
open Go
set_option maxRecDepth 4000

section
variable {P : Hop → Prop} {to : Int} {N : Nat}
open Classical in
theorem rn_still2 (h0 : 0 ≤ to) (h1 : to < N) : ∀ k : Nat, (∃ m, m ≤ k ∧ ∀ x : Nat, x < N → Rn P (m + 1) x to → Rn P m x to) ∨ k + 1 ≤ (List.range N).countP fun (x : Nat) => decide (Rn P k (x : Int) to)
  | 0 => by
    refine .inr ?_
    have := List.countP_pos_iff (l := List.range N) (p := fun (x : Nat) => decide (Rn P 0 (x : Int) to))
    exact this.2 ⟨to.toNat, by simp; omega, decide_eq_true (show ((to.toNat : Nat) : Int) = to by omega)⟩
  | k + 1 => by
    rcases rn_still2 h0 h1 k with ⟨m, hm, h⟩ | h
    · exact .inl ⟨m, by omega, h⟩
    · by_cases hs : ∀ x : Nat, x < N → Rn P (k + 1) x to → Rn P k x to
      · exact .inl ⟨k, by omega, hs⟩
      · refine .inr (Nat.lt_of_le_of_lt h (countP_lt (fun x _ hx => ?_) ?_))
        · simp only [decide_eq_true_eq] at hx ⊢
          exact Rn.mono (Nat.le_succ k) hx
        · have ⟨x, hx⟩ := Classical.not_forall.1 hs
          have ⟨h8, hx⟩ := Classical.not_imp.1 hx
          have ⟨h1, h2⟩ := Classical.not_imp.1 hx
          exact ⟨x, by simpa using h8, by simpa using h1, by simpa using h2⟩

theorem rnN (hin : ∀ h, P h → (0 ≤ h.1 ∧ h.1 < N) ∧ 0 ≤ h.2 ∧ h.2 < N) (h0 : 0 ≤ to) (h1 : to < N) {n : Nat} {a : Int} (ha : 0 ≤ a ∧ a < N) (h : Rn P n a to) : Rn P N a to := by
  classical
  have hm : ∃ m, m ≤ N ∧ ∀ x : Nat, x < N → Rn P (m + 1) x to → Rn P m x to := by
    rcases rn_still2 (P := P) h0 h1 N with h | h
    · exact h
    · have := List.countP_le_length (p := fun (x : Nat) => decide (Rn P N (x : Int) to)) (l := List.range N)
      simp at this
      omega
  obtain ⟨m, hm8, hm⟩ := hm
  have hm' : ∀ x : Int, 0 ≤ x ∧ x < N → Rn P (m + 1) x to → Rn P m x to := fun x hx h => by
    have := hm x.toNat (by omega)
    rw [Int.toNat_of_nonneg hx.1] at this
    exact this h
  suffices hs : ∀ (k : Nat) (x : Int), 0 ≤ x ∧ x < N → Rn P (m + k) x to → Rn P m x to by
    by_cases hnm : n ≤ m
    · exact (h.mono hnm).mono hm8
    · exact (hs (n - m) a ha (h.mono (by omega))).mono hm8
  intro k
  induction k with
  | zero => exact fun x _ h => h
  | succ k ih =>
    intro x hx h
    rcases Rn.head.1 h with h | ⟨c, hp, h⟩
    · exact ih x hx h
    · exact hm' x hx (Rn.head.2 (.inr ⟨c, hp, ih c (hin _ hp).2 h⟩))
end

/-- One group right below another one. -/
def PG (g : List Group) (h : Hop) : Prop := ∃ (k : Nat) (x : Group), h.1 = k ∧ g[k]? = some x ∧ h.2 ∈ x.2
/-- Below, in one step or more. -/
def Bel (g : List Group) (i x : Int) : Prop := ∃ n y, PG g (i, y) ∧ Rn (PG g) n y x

theorem PG.at {g : List Group} {k : Nat} {x : Group} (hk : g[k]? = some x) (y : Int) : PG g ((k : Int), y) ↔ y ∈ x.2 := by
  constructor
  · rintro ⟨k', x', h1, h2, h3⟩
    have : k = k' := Int.ofNat.inj h1
    subst this
    rw [hk] at h2
    cases h2
    exact h3
  · exact fun h => ⟨k, x, rfl, hk, h⟩

theorem groupsOk_in {g : List Group} (h : groupsOk g = true) : g.length ≤ 8 ∧ ∀ i, GrIn g i := by simpa [groupsOk] using h

theorem PG.in {g : List Group} (hg : groupsOk g = true) {h : Hop} (hp : PG g h) : (0 ≤ h.1 ∧ h.1 < g.length) ∧ 0 ≤ h.2 ∧ h.2 < g.length := by
  obtain ⟨k, x, h1, h2, h3⟩ := hp
  have hk := (List.getElem?_eq_some_iff.1 h2).1
  have := ((groupsOk_in hg).2 k x h2).2.1 _ h3
  unfold inT at this
  omega

theorem rise_nodup {l : List Int} (h : RiseP l) : l.Nodup := by
  rw [List.nodup_iff_pairwise_ne, List.pairwise_iff_getElem]
  have key : ∀ (j i : Nat) (hi : i < l.length) (hj : i + j + 1 < l.length), l[i] < l[i + j + 1] := by
    intro j
    induction j with
    | zero => exact fun i hi hj => h i _ _ (List.getElem?_eq_getElem hi) (List.getElem?_eq_getElem hj)
    | succ j ih =>
      intro i hi hj
      have h1 := ih i hi (by omega)
      have h2 := h (i + j + 1) _ _ (List.getElem?_eq_getElem (by omega)) (List.getElem?_eq_getElem (show i + j + 1 + 1 < l.length by omega))
      exact Int.lt_trans h1 h2
  intro i j hi hj hij
  have := key (j - i - 1) i hi (by omega)
  have e : i + (j - i - 1) + 1 = j := by omega
  simp only [e] at this
  omega

/-- What holds of the groups found so far, of which the first ones are done. -/
structure Bi (g : List Group) (some_ : List Int) (i : Nat) (gl : List Int) : Prop where
  nd : gl.Nodup
  at_ : ∀ x ∈ gl, (0 ≤ x ∧ x < g.length) ∧ ∃ y ∈ some_, ∃ n, Rn (PG g) n y x
  fr_ : ∀ y ∈ some_, y ∈ gl
  done : ∀ (j : Nat) (a : Int), j < i → gl[j]? = some a → ∀ y, PG g (a, y) → y ∈ gl

theorem Bi.len {g : List Group} {sm : List Int} {i : Nat} {gl : List Int} (h : Bi g sm i gl) : gl.length ≤ g.length := nodup_le g.length gl h.nd fun x hx => (h.at_ x hx).1

theorem Bi.push {g : List Group} {sm : List Int} {i : Nat} {gl : List Int} {a x : Int} (h : Bi g sm i gl) (hi : i ≤ gl.length) (ha : a ∈ gl) (hx : x ∉ gl) (hr : 0 ≤ x ∧ x < g.length) (hp : PG g (a, x)) : Bi g sm i (gl ++ [x]) := by
  obtain ⟨_, z, hz, n, hn⟩ := h.at_ a ha
  refine ⟨?_, fun y hy => ?_, fun y hy => List.mem_append_left _ (h.fr_ y hy), fun j b hj hb y hy => ?_⟩
  · rw [List.nodup_append]
    refine ⟨h.nd, by simp, fun b hb c hc e => ?_⟩
    rw [List.mem_singleton] at hc
    subst hc e
    exact hx hb
  · rcases List.mem_append.1 hy with hy | hy
    · exact h.at_ y hy
    · rw [List.mem_singleton] at hy
      subst hy
      exact ⟨hr, z, hz, n + 1, .inr ⟨a, hn, hp⟩⟩
  · rw [List.getElem?_append_left (by omega)] at hb
    exact List.mem_append_left _ (h.done j b hj hb y hy)

theorem Bi.end_ {g : List Group} {sm : List Int} {gl : List Int} (h : Bi g sm gl.length gl) (x : Int) : x ∈ gl ↔ ∃ y ∈ sm, ∃ n, Rn (PG g) n y x := by
  suffices hs : ∀ (n : Nat) (y x : Int), y ∈ sm → Rn (PG g) n y x → x ∈ gl from ⟨fun hx => (h.at_ x hx).2, fun ⟨y, hy, n, hn⟩ => hs n y x hy hn⟩
  intro n
  induction n with
  | zero => exact fun y x hy hn => (show y = x from hn) ▸ h.fr_ y hy
  | succ n ih =>
    intro y x hy hn
    rcases hn with hn | ⟨c, hn, hp⟩
    · exact ih y x hy hn
    · obtain ⟨j, hj⟩ := List.getElem?_of_mem (ih y c hy hn)
      exact h.done j c (List.getElem?_eq_some_iff.1 hj).1 hj x hp

/-- What is below, as marks. -/
def eB (b : Bool) : List Value := [.bool b]
abbrev SlB (H : Hp) (v : Value) (l : List Bool) : Prop := Sl (En eB) 1 H v l
theorem Sl.bool {H : Hp} {v : Value} {l : List Bool} (h : SlB H v l) {i : Nat} {a : Bool} (hi : l[i]? = some a) : ∃ id p o, H[id]? = some o ∧ o[p]? = some (.bool a) ∧
    ∀ (s : St) (x y : X), exv s.ρ x = some v → exv s.ρ y = some (.int .i64 i) → iadrK s 1 x y = some (.val (.pointer (some ⟨id, p, some o.length⟩)), s) := by
  obtain ⟨id, p, o, ho, hr, hp, hia⟩ := h.elem hi
  unfold En at hr
  exact ⟨id, p, o, ho, by simpa [eB] using getElem?_of_take hr (j := 0) (by omega), hia⟩

/-- Marks that all stand for groups below, and hold at least some. -/
structure Mk (g : List Group) (i : Int) (Q : Int → Prop) (b : List Bool) : Prop where
  len : b.length = g.length
  snd : ∀ x : Nat, b[x]? = some true → Bel g i x
  has : ∀ x : Nat, x < g.length → Q x → b[x]? = some true

theorem Mk.put {g : List Group} {i : Int} {Q : Int → Prop} {b : List Bool} {y : Nat} (h : Mk g i Q b) (hy : Bel g i y) (hl : y < g.length) : Mk g i (fun x => Q x ∨ x = y) (b.set y true) := by
  refine ⟨by simp [h.len], fun x hx => ?_, fun x hx hq => ?_⟩
  · rw [List.getElem?_set] at hx
    split at hx
    · rename_i e; subst e; exact hy
    · exact h.snd x hx
  · rw [List.getElem?_set]
    split
    · rename_i e; subst e; rw [if_pos (by rw [h.len]; exact hl)]
    · rename_i e
      rcases hq with hq | hq
      · exact h.has x hx hq
      · exact absurd (by omega) e

theorem Mk.mono {g : List Group} {i : Int} {Q Q' : Int → Prop} {b : List Bool} (h : Mk g i Q b) (hq : ∀ x : Nat, x < g.length → Q' x → Q x) : Mk g i Q' b := ⟨h.len, h.snd, fun x hx hq' => h.has x hx (hq x hx hq')⟩

open Classical in
noncomputable def belL (g : List Group) (i : Int) : List Bool := (List.range g.length).map fun (x : Nat) => decide (Bel g i x)
theorem belL_get {g : List Group} {i : Int} {x : Nat} {b : Bool} (h : (belL g i)[x]? = some b) : b = true ↔ Bel g i x := by
  classical
  unfold belL at h
  rw [List.getElem?_map] at h
  cases hr : (List.range g.length)[x]? with
  | none => rw [hr] at h; cases h
  | some y =>
    rw [hr] at h
    have : y = x := by
      rw [List.getElem?_range] at hr
      · exact (Option.some.inj hr).symm
      · have := (List.getElem?_eq_some_iff.1 hr).1
        simpa using this
    subst this
    simp at h
    subst h
    simp

theorem Mk.all {g : List Group} {i : Int} {b : List Bool} (h : Mk g i (fun x => Bel g i x) b) : b = belL g i := by
  refine List.ext_getElem? fun x => ?_
  by_cases hx : x < g.length
  · obtain ⟨c, hc⟩ : ∃ c, (belL g i)[x]? = some c := ⟨_, List.getElem?_eq_getElem (by simpa [belL] using hx)⟩
    obtain ⟨d, hd⟩ : ∃ d, b[x]? = some d := ⟨_, List.getElem?_eq_getElem (by rw [h.len]; exact hx)⟩
    rw [hc, hd]
    have e1 := belL_get hc
    cases d with
    | true => rw [e1.2 (h.snd x hd)]
    | false =>
      cases c with
      | false => rfl
      | true => rw [h.has x hx (e1.1 rfl)] at hd; cases hd
  · rw [List.getElem?_eq_none (by rw [h.len]; omega), List.getElem?_eq_none (by simp [belL]; omega)]
end Go.Proofs.Ytdplmjlbkaipiaa.Ev

/- Groups below groups: the program's way. -/
namespace Go.Proofs.Ytdplmjlbkaipiaa.Ev
set_option linter.all false
open Go
set_option maxRecDepth 4000

theorem nat_of {x : Int} (h : 0 ≤ x) : ∃ k : Nat, x = k := ⟨x.toNat, by omega⟩

theorem f81 {m : Md} {H : Hp} {v sv : Value} {g : List Group} {sm : List Int} (hg : SlG H v g) (hok : groupsOk g = true) (hs : SlI H sv sm) (hnd : sm.Nodup) (hin : ∀ x ∈ sm, 0 ≤ x ∧ x < g.length) (hw : Wr m H) :
    Fun EE m 81 [v, sv] H fun r H' => ∃ gl, FreshS eI 1 H r H' gl ∧ Bi g sm gl.length gl := by
  refine fun_f rfl rfl k81 (by simp [c81]) ?_
  have hg8 := (groupsOk_in hok).1
  have hsl := nodup_le g.length sm hnd hin
  simp only [go_sem, ↓reduceIte, Nat.reduceEqDiff, reduceCtorEq, Nat.reduceAdd, Nat.reduceLeDiff, Nat.reduceMul, c81]
  refine callT_to (fun m' h => f86 hs (by omega) h) rfl hw fun r1 H1 ⟨p1, s1, o1⟩ => ?_
  simp only [go_sem, ↓reduceIte, Nat.reduceEqDiff, reduceCtorEq, Nat.reduceAdd, Nat.reduceLeDiff, Nat.reduceMul]
  refine go_loop (fun k s => H <+: s.H ∧ s.ρ 0 = .val v ∧ ∃ (i : Nat) (wv : Value) (gl : List Int), s.ρ 6 = .val (.int .i64 i) ∧ s.ρ 5 = .val wv ∧ SlI s.H wv gl ∧ OwnS H.length wv ∧ Bi g sm i gl ∧ i ≤ gl.length ∧ k = g.length + 1 - i)
    (fun s => H <+: s.H ∧ ∃ wv gl, s.ρ 5 = .val wv ∧ SlI s.H wv gl ∧ OwnS H.length wv ∧ Bi g sm gl.length gl) (g.length + 1) ?_ ?_ ?_
  · exact ⟨p1, by simp [upd, ini], 0, r1, sm, by simp [upd], by simp [upd], s1, o1, ⟨hnd, fun x hx => ⟨hin x hx, x, hx, 0, rfl⟩, fun _ h => h, fun j a hj => by omega⟩, by simp, rfl⟩
  · rintro k s ⟨hH, h0, i, wv, gl, h6, h5, hs, ho, hb, hi, rfl⟩
    have hgl := hb.len
    have kg := hg.preG hH
    simp only [go_sem, ↓reduceIte, Nat.reduceEqDiff, reduceCtorEq, Nat.reduceAdd, Nat.reduceLeDiff, Nat.reduceMul, h0, h5, h6, hs.len]
    refine brT.intro (fun q1 => ?_) (fun q1 => ?_) <;> simp only [go_sem, ↓reduceIte, Nat.reduceEqDiff, reduceCtorEq, Nat.reduceAdd, Nat.reduceLeDiff, Nat.reduceMul, h0, h5, h6]
    · have q2 : i < gl.length := by have := of_decide_eq_true q1; omega
      obtain ⟨id, p, o, hoo, hre, hia⟩ := hs.int (List.getElem?_eq_getElem q2)
      have ham := (hb.at_ _ (List.getElem_mem q2)).1
      obtain ⟨a, ha⟩ := nat_of ham.1
      rw [ha] at hre ham
      have ha8 : a < g.length := by omega
      obtain ⟨x, hx⟩ : ∃ x, g[a]? = some x := ⟨_, List.getElem?_eq_getElem ha8⟩
      obtain ⟨idg, pg, og, uu, zz, hog, hgu, hgz, _, hpg, hsu, hsz, hiag⟩ := hg.group hx
      have hog' : s.H[idg]? = some og := by rw [pre_get hH (List.getElem?_eq_some_iff.1 hog).1]; exact hog
      simp only [go_sem, ↓reduceIte, Nat.reduceEqDiff, reduceCtorEq, Nat.reduceAdd, Nat.reduceLeDiff, Nat.reduceMul, h0, h5, h6, hia, hoo, hre, hiag, hog', hgz, hsz.len]
      refine go_for x.2.length (fun t s' => H <+: s'.H ∧ s'.ρ 0 = .val v ∧ s'.ρ 6 = .val (.int .i64 i) ∧ s'.ρ 24 = .val zz ∧ s'.ρ 25 = .val (.int .i64 x.2.length) ∧ s'.ρ 26 = .val (.int .i64 t) ∧ ∃ (wv : Value) (gl' : List Int), s'.ρ 5 = .val wv ∧ SlI s'.H wv gl' ∧ OwnS H.length wv ∧ Bi g sm i gl' ∧ gl <+: gl' ∧ ∀ y ∈ x.2.take t, y ∈ gl')
        (fun s' => H <+: s'.H ∧ s'.ρ 0 = .val v ∧ s'.ρ 6 = .val (.int .i64 i) ∧ ∃ (wv : Value) (gl' : List Int), s'.ρ 5 = .val wv ∧ SlI s'.H wv gl' ∧ OwnS H.length wv ∧ Bi g sm i gl' ∧ gl <+: gl' ∧ ∀ y ∈ x.2, y ∈ gl') ?_ ?_ ?_
      · exact ⟨hH, by simp [upd, h0], by simp [upd, h6], by simp [upd], by simp [upd], by simp [upd], wv, gl, by simp [upd, h5], hs, ho, hb, List.prefix_refl _, fun y hy => by simp at hy⟩
      · rintro t s' ht ⟨kH, k0, k6, k24, k25, k26, wv', gl', k5, ks, ko, kb, kp, kd⟩
        have kw := hw.pre kH
        have ksz := hsz.pre kH
        have hxr := hsz.room
        have hgi : gl'[i]? = some (a : Int) := by
          obtain ⟨t2, rfl⟩ := kp
          rw [List.getElem?_append_left q2, List.getElem?_eq_getElem q2, ha]
        have hgm : (a : Int) ∈ gl' := List.mem_of_getElem? hgi
        have hil : i ≤ gl'.length := Nat.le_of_lt (List.getElem?_eq_some_iff.1 hgi).1
        simp only [go_sem, ↓reduceIte, Nat.reduceEqDiff, reduceCtorEq, Nat.reduceAdd, Nat.reduceLeDiff, Nat.reduceMul, k0, k5, k6, k24, k25, k26]
        refine brT.intro (fun c1 => ?_) (fun c1 => ?_) <;> simp only [go_sem, ↓reduceIte, Nat.reduceEqDiff, reduceCtorEq, Nat.reduceAdd, Nat.reduceLeDiff, Nat.reduceMul, k0, k5, k6, k24, k25, k26]
        · have ht8 : t < x.2.length := by have := of_decide_eq_true c1; omega
          have hxt := List.getElem?_eq_getElem ht8
          obtain ⟨id2, p2, o2, ho2, hr2, hia2⟩ := ksz.int hxt
          have a62 := fun {m draw s d ts Q} => callT_at (m := m) (draw := draw) (s := s) (d := d) (ts := ts) (Q := Q) (f62 (h := x.2[t]) ks)
          simp only [go_sem, ↓reduceIte, Nat.reduceEqDiff, reduceCtorEq, Nat.reduceAdd, Nat.reduceLeDiff, Nat.reduceMul, k0, k5, k6, k24, k25, k26, hia2, ho2, hr2, a62, kw]
          have htk : x.2.take (t + 1) = x.2.take t ++ [x.2[t]] := by rw [List.take_succ_eq_append_getElem]
          refine brT.intro (fun c4 => ?_) (fun c4 => ?_) <;> simp only [go_sem, ↓reduceIte, Nat.reduceEqDiff, reduceCtorEq, Nat.reduceAdd, Nat.reduceLeDiff, Nat.reduceMul, c4, k0, k5, k6, k24, k25, k26, wrap64 ((t : Int) + 1) (by omega) (by omega)]
          · refine ⟨ht8, kH, by simp, wv', gl', rfl, ks, ko, kb, kp, fun y hy => ?_⟩
            rw [htk] at hy
            rcases List.mem_append.1 hy with hy | hy
            · exact kd y hy
            · rw [List.mem_singleton] at hy
              subst hy
              exact of_decide_eq_true c4
          · have hxn : x.2[t] ∉ gl' := of_decide_eq_false c4
            have hPG : PG g ((a : Int), x.2[t]) := (PG.at hx _).2 (List.getElem_mem ht8)
            have kb2 := kb.push hil hgm hxn (PG.in hok hPG).2 hPG
            have hl8 := kb.len
            obtain ⟨v2, H2, e1, e2, e3, e4, e5, e6, e7⟩ := ks.one (m := m) (x.2[t]) ko kH.length_le hw (by omega)
            rw [e1]
            rotate_left
            · rfl
            · rfl
            · rfl
            simp only [go_sem, ↓reduceIte, Nat.reduceEqDiff, reduceCtorEq, Nat.reduceAdd, Nat.reduceLeDiff, Nat.reduceMul, c4, k0, k5, k6, k24, k25, k26, wrap64 ((t : Int) + 1) (by omega) (by omega)]
            refine ⟨ht8, e7 H (Nat.le_refl _) kH, by simp, v2, _, rfl, e2, e3, kb2, kp.trans (List.prefix_append _ _), fun y hy => ?_⟩
            rw [htk] at hy
            rcases List.mem_append.1 hy with hy | hy
            · exact List.mem_append_left _ (kd y hy)
            · exact List.mem_append_right _ hy
        · have : x.2.length ≤ t := by have := of_decide_eq_false c1; omega
          rw [List.take_of_length_le this] at kd
          exact ⟨kH, wv', gl', rfl, ks, ko, kb, kp, kd⟩
      · rintro s' ⟨kH, k0, k6, wv', gl', k5, ks, ko, kb, kp, kd⟩
        simp only [go_sem, ↓reduceIte, Nat.reduceEqDiff, reduceCtorEq, Nat.reduceAdd, Nat.reduceLeDiff, Nat.reduceMul, k0, k5, k6, wrap64 ((i : Int) + 1) (by omega) (by omega)]
        have hil : gl.length ≤ gl'.length := kp.length_le
        have hgi : gl'[i]? = some (a : Int) := by
          obtain ⟨t2, rfl⟩ := kp
          rw [List.getElem?_append_left q2, List.getElem?_eq_getElem q2, ha]
        refine ⟨g.length + 1 - (i + 1), by omega, kH, i + 1, wv', gl', by simp, rfl, ks, ko, ⟨kb.nd, kb.at_, kb.fr_, fun j b hj hb2 y hy => ?_⟩, by omega, rfl⟩
        by_cases hji : j < i
        · exact kb.done j b hji hb2 y hy
        · have : j = i := by omega
          subst this
          rw [hgi] at hb2
          cases hb2
          exact kd y ((PG.at hx y).1 hy)
    · have q2 : i = gl.length := by have := of_decide_eq_false q1; omega
      subst q2
      exact ⟨hH, wv, gl, rfl, hs, ho, hb⟩
  · rintro s ⟨hH, wv, gl, h5, hs, ho, hb⟩
    simp only [go_sem, ↓reduceIte, Nat.reduceEqDiff, reduceCtorEq, Nat.reduceAdd, Nat.reduceLeDiff, Nat.reduceMul, h5]
    exact ⟨gl, ⟨hH, hs, ho⟩, hb⟩
end Go.Proofs.Ytdplmjlbkaipiaa.Ev

/- Groups below groups: the reference's way. -/
namespace Go.Proofs.Ytdplmjlbkaipiaa.Ev
set_option linter.all false
open Go
set_option maxRecDepth 4000

/-- Below, in so many steps at most behind the first. -/
def Lv (g : List Group) (i : Int) (n : Nat) (x : Int) : Prop := ∃ y, PG g (i, y) ∧ Rn (PG g) n y x
theorem Lv.bel {g : List Group} {i x : Int} {n : Nat} (h : Lv g i n x) : Bel g i x := ⟨n, h⟩
theorem Bel.step {g : List Group} {i x y : Int} (h : Bel g i x) (hp : PG g (x, y)) : Bel g i y := by
  obtain ⟨n, z, h1, h2⟩ := h
  exact ⟨n + 1, z, h1, .inr ⟨x, h2, hp⟩⟩

theorem f80 {m : Md} {H : Hp} {v : Value} {g : List Group} {i : Nat} (hg : SlG H v g) (hok : groupsOk g = true) (hi : i < g.length) (hw : Wr m H) :
    Fun EE m 80 [v, .int .i64 i] H fun r H' => FreshS eB 1 H r H' (belL g i) := by
  refine fun_f rfl rfl k80 (by simp [c80]) ?_
  have hg8 := (groupsOk_in hok).1
  obtain ⟨g1, g2⟩ := make_sl (R := En eB) (esz := 1) (H := H) (z := false) (zero := [.bool false]) (n := g.length) (bytes := 1) rfl rfl (by unfold room; omega) (by unfold room; omega)
  generalize hsv : (Value.slice (some ⟨H.length, 0, some 1⟩) g.length (g.length * 1)) = sv at g1 g2
  have hown : OwnS H.length sv := .inr ⟨_, _, _, _, hsv.symm, Nat.le_refl _⟩
  have hids : idsOf sv = [H.length] := by rw [← hsv]; rfl
  have hwid : m.wr H.length = true := hw _ (Nat.le_refl _)
  obtain ⟨X, hX⟩ : ∃ X, g[i]? = some X := ⟨_, List.getElem?_eq_getElem hi⟩
  obtain ⟨idX, pX, oX, uX, zX, hoX, _, hzX, _, hpX, _, hsX, hiaX⟩ := hg.group hX
  have hXl : X.2.length ≤ g.length := nodup_le g.length _ (rise_nodup ((groupsOk_in hok).2 i X hX).2.2) fun y hy => (PG.in hok ((PG.at hX y).2 hy)).2
  simp only [go_sem, ↓reduceIte, Nat.reduceEqDiff, reduceCtorEq, Nat.reduceAdd, Nat.reduceLeDiff, Nat.reduceMul, c80, hg.len]
  rw [g2 _ _ _ rfl rfl rfl]
  simp only [go_sem, ↓reduceIte, Nat.reduceEqDiff, reduceCtorEq, Nat.reduceAdd, Nat.reduceLeDiff, Nat.reduceMul]
  refine go_for X.2.length (fun t s => H <+: s.H ∧ s.ρ 0 = .val v ∧ s.ρ 1 = .val (.int .i64 i) ∧ s.ρ 5 = .val sv ∧ s.ρ 6 = .val (.int .i64 t) ∧ ∃ b, SlB s.H sv b ∧ Mk g i (fun x => x ∈ X.2.take t) b)
    (fun s => H <+: s.H ∧ s.ρ 0 = .val v ∧ s.ρ 5 = .val sv ∧ ∃ b, SlB s.H sv b ∧ Mk g i (fun x => x ∈ X.2) b) ?_ ?_ ?_
  · refine ⟨List.prefix_append _ _, by simp [upd, ini], by simp [upd, ini], by simp [upd], by simp [upd], _, g1, by simp, fun x hx => ?_, fun x _ hq => by simp at hq⟩
    rw [List.getElem?_replicate] at hx
    split at hx <;> cases hx
  · rintro t s ht ⟨hH, h0, h1, h5, h6, b, hs, hm⟩
    have hoX' : s.H[idX]? = some oX := by rw [pre_get hH (List.getElem?_eq_some_iff.1 hoX).1]; exact hoX
    have ksX := hsX.pre hH
    simp only [go_sem, ↓reduceIte, Nat.reduceEqDiff, reduceCtorEq, Nat.reduceAdd, Nat.reduceLeDiff, Nat.reduceMul, h0, h1, h5, h6, hiaX, hoX', hzX, ksX.len]
    refine brT.intro (fun q1 => ?_) (fun q1 => ?_) <;> simp only [go_sem, ↓reduceIte, Nat.reduceEqDiff, reduceCtorEq, Nat.reduceAdd, Nat.reduceLeDiff, Nat.reduceMul, h0, h1, h5, h6]
    · have q2 : t < X.2.length := by have := of_decide_eq_true q1; omega
      obtain ⟨id2, p2, o2, ho2, hr2, hia2⟩ := ksX.int (List.getElem?_eq_getElem q2)
      have hPG : PG g ((i : Int), X.2[t]) := (PG.at hX _).2 (List.getElem_mem q2)
      have hin : 0 ≤ X.2[t] ∧ X.2[t] < g.length := (PG.in hok hPG).2
      obtain ⟨y, hy⟩ := nat_of hin.1
      rw [hy] at hr2 hin hPG
      have hyl : y < g.length := by omega
      obtain ⟨id3, p3, o3, ho3, hp3, hid3, hia3, hst3⟩ := hs.store (i := y) (by rw [hm.len]; exact hyl)
      have hid' : id3 = H.length := by rw [hids] at hid3; simpa using hid3.symm
      subst hid'
      simp only [go_sem, ↓reduceIte, Nat.reduceEqDiff, reduceCtorEq, Nat.reduceAdd, Nat.reduceLeDiff, Nat.reduceMul, h0, h1, h5, h6, hiaX, hoX', hzX, hia2, ho2, hr2, hia3, ho3, hp3, hwid, wrap64 ((t : Int) + 1) (by omega) (by omega)]
      refine ⟨q2, pre_set hH (Nat.le_refl _), by simp, _, hst3 true [.bool true] rfl rfl, (hm.put ⟨0, y, hPG, rfl⟩ hyl).mono fun x _ hx => ?_⟩
      rw [List.take_succ_eq_append_getElem q2] at hx
      rcases List.mem_append.1 hx with hx | hx
      · exact .inl hx
      · rw [List.mem_singleton, hy] at hx
        exact .inr hx
    · have q2 : X.2.length ≤ t := by have := of_decide_eq_false q1; omega
      rw [List.take_of_length_le q2] at hm
      exact ⟨hH, b, hs, hm⟩
  · rintro s ⟨hH, h0, h5, b, hs, hm⟩
    simp only [go_sem, ↓reduceIte, Nat.reduceEqDiff, reduceCtorEq, Nat.reduceAdd, Nat.reduceLeDiff, Nat.reduceMul, h0, h5]
    refine go_for g.length (fun r s => H <+: s.H ∧ s.ρ 0 = .val v ∧ s.ρ 5 = .val sv ∧ s.ρ 7 = .val (.int .i64 r) ∧ ∃ b, SlB s.H sv b ∧ Mk g i (Lv g i r) b)
      (fun s => H <+: s.H ∧ s.ρ 5 = .val sv ∧ SlB s.H sv (belL g i)) ?_ ?_ ?_
    · exact ⟨hH, by simp [upd, h0], by simp [upd, h5], by simp [upd], b, hs, hm.mono fun x _ ⟨y, hp, hr⟩ => by
        have : y = (x : Int) := hr
        subst this
        exact (PG.at hX _).1 hp⟩
    · rintro r s hr ⟨kH, k0, k5, k7, b, ks, km⟩
      have ku := hg.preG kH
      simp only [go_sem, ↓reduceIte, Nat.reduceEqDiff, reduceCtorEq, Nat.reduceAdd, Nat.reduceLeDiff, Nat.reduceMul, k0, k5, k7, ku.len]
      refine brT.intro (fun q1 => ?_) (fun q1 => ?_) <;> simp only [go_sem, ↓reduceIte, Nat.reduceEqDiff, reduceCtorEq, Nat.reduceAdd, Nat.reduceLeDiff, Nat.reduceMul, k0, k5, k7]
      · have q2 : r < g.length := by have := of_decide_eq_true q1; omega
        refine go_for g.length (fun k s => H <+: s.H ∧ s.ρ 0 = .val v ∧ s.ρ 5 = .val sv ∧ s.ρ 7 = .val (.int .i64 r) ∧ s.ρ 8 = .val (.int .i64 k) ∧ ∃ b, SlB s.H sv b ∧ Mk g i (fun x => Lv g i r x ∨ ∃ k' : Nat, k' < k ∧ Lv g i r k' ∧ PG g ((k' : Int), x)) b)
          (fun s => H <+: s.H ∧ s.ρ 0 = .val v ∧ s.ρ 5 = .val sv ∧ s.ρ 7 = .val (.int .i64 r) ∧ ∃ b, SlB s.H sv b ∧ Mk g i (Lv g i (r + 1)) b) ?_ ?_ ?_
        · exact ⟨kH, by simp [upd, k0], by simp [upd, k5], by simp [upd, k7], by simp [upd], b, ks, km.mono fun x _ hx => by
            rcases hx with hx | ⟨k', hk', _⟩
            · exact hx
            · omega⟩
        · rintro k s hk ⟨jH, j0, j5, j7, j8, b, js, jm⟩
          have ju := hg.preG jH
          simp only [go_sem, ↓reduceIte, Nat.reduceEqDiff, reduceCtorEq, Nat.reduceAdd, Nat.reduceLeDiff, Nat.reduceMul, j0, j5, j7, j8, ju.len]
          refine brT.intro (fun p1 => ?_) (fun p1 => ?_) <;> simp only [go_sem, ↓reduceIte, Nat.reduceEqDiff, reduceCtorEq, Nat.reduceAdd, Nat.reduceLeDiff, Nat.reduceMul, j0, j5, j7, j8]
          · have hkl : k < g.length := by have := of_decide_eq_true p1; omega
            obtain ⟨Y, hY⟩ : ∃ Y, g[k]? = some Y := ⟨_, List.getElem?_eq_getElem hkl⟩
            obtain ⟨idY, pY, oY, uY, zY, hoY, _, hzY, _, hpY, _, hsY, hiaY⟩ := hg.group hY
            have hYl : Y.2.length ≤ g.length := nodup_le g.length _ (rise_nodup ((groupsOk_in hok).2 k Y hY).2.2) fun y hy => (PG.in hok ((PG.at hY y).2 hy)).2
            refine go_for Y.2.length (fun t s => H <+: s.H ∧ s.ρ 0 = .val v ∧ s.ρ 5 = .val sv ∧ s.ρ 7 = .val (.int .i64 r) ∧ s.ρ 8 = .val (.int .i64 k) ∧ s.ρ 9 = .val (.int .i64 t) ∧ ∃ b, SlB s.H sv b ∧ Mk g i (fun x => (Lv g i r x ∨ ∃ k' : Nat, k' < k ∧ Lv g i r k' ∧ PG g ((k' : Int), x)) ∨ x ∈ Y.2.take t) b)
              (fun s => H <+: s.H ∧ s.ρ 0 = .val v ∧ s.ρ 5 = .val sv ∧ s.ρ 7 = .val (.int .i64 r) ∧ s.ρ 8 = .val (.int .i64 k) ∧ ∃ b, SlB s.H sv b ∧ Mk g i (fun x => Lv g i r x ∨ ∃ k' : Nat, k' < k + 1 ∧ Lv g i r k' ∧ PG g ((k' : Int), x)) b) ?_ ?_ ?_
            · exact ⟨jH, by simp [upd, j0], by simp [upd, j5], by simp [upd, j7], by simp [upd, j8], by simp [upd], b, js, jm.mono fun x _ hx => by
                rcases hx with hx | hx
                · exact hx
                · simp at hx⟩
            · rintro t s ht ⟨iH, i0, i5, i7, i8, i9, b, is_, im⟩
              have hoY' : s.H[idY]? = some oY := by rw [pre_get iH (List.getElem?_eq_some_iff.1 hoY).1]; exact hoY
              have ksY := hsY.pre iH
              obtain ⟨c, hc⟩ : ∃ c, b[k]? = some c := ⟨_, List.getElem?_eq_getElem (by rw [im.len]; exact hkl)⟩
              obtain ⟨idc, pc, oc, hoc, hrc, hiac⟩ := is_.bool hc
              cases c with
              | false =>
                simp only [go_sem, ↓reduceIte, Nat.reduceEqDiff, reduceCtorEq, Nat.reduceAdd, Nat.reduceLeDiff, Nat.reduceMul, i0, i5, i7, i8, i9, hiac, hoc, hrc]
                refine ⟨iH, b, is_, im.mono fun x hx hq => ?_⟩
                rcases hq with hq | ⟨k', hk', hl, hp⟩
                · exact .inl (.inl hq)
                · by_cases hkk : k' < k
                  · exact .inl (.inr ⟨k', hkk, hl, hp⟩)
                  · have : k' = k := by omega
                    subst this
                    have := im.has k' hkl (.inl (.inl hl))
                    rw [hc] at this
                    cases this
              | true =>
                simp only [go_sem, ↓reduceIte, Nat.reduceEqDiff, reduceCtorEq, Nat.reduceAdd, Nat.reduceLeDiff, Nat.reduceMul, i0, i5, i7, i8, i9, hiac, hoc, hrc, hiaY, hoY', hzY, ksY.len]
                refine brT.intro (fun e1 => ?_) (fun e1 => ?_) <;> simp only [go_sem, ↓reduceIte, Nat.reduceEqDiff, reduceCtorEq, Nat.reduceAdd, Nat.reduceLeDiff, Nat.reduceMul, i0, i5, i7, i8, i9]
                · have e2 : t < Y.2.length := by have := of_decide_eq_true e1; omega
                  obtain ⟨id2, p2, o2, ho2, hr2, hia2⟩ := ksY.int (List.getElem?_eq_getElem e2)
                  have hPG : PG g ((k : Int), Y.2[t]) := (PG.at hY _).2 (List.getElem_mem e2)
                  have hin : 0 ≤ Y.2[t] ∧ Y.2[t] < g.length := (PG.in hok hPG).2
                  obtain ⟨y, hy⟩ := nat_of hin.1
                  rw [hy] at hr2 hin hPG
                  have hyl : y < g.length := by omega
                  obtain ⟨id3, p3, o3, ho3, hp3, hid3, hia3, hst3⟩ := is_.store (i := y) (by rw [im.len]; exact hyl)
                  have hid' : id3 = H.length := by rw [hids] at hid3; simpa using hid3.symm
                  subst hid'
                  simp only [go_sem, ↓reduceIte, Nat.reduceEqDiff, reduceCtorEq, Nat.reduceAdd, Nat.reduceLeDiff, Nat.reduceMul, i0, i5, i7, i8, i9, hiaY, hoY', hzY, hia2, ho2, hr2, hia3, ho3, hp3, hwid, wrap64 ((t : Int) + 1) (by omega) (by omega)]
                  refine ⟨e2, pre_set iH (Nat.le_refl _), by simp, _, hst3 true [.bool true] rfl rfl, (im.put ((im.snd k hc).step hPG) hyl).mono fun x _ hx => ?_⟩
                  rcases hx with hx | hx
                  · exact .inl (.inl hx)
                  · rw [List.take_succ_eq_append_getElem e2] at hx
                    rcases List.mem_append.1 hx with hx | hx
                    · exact .inl (.inr hx)
                    · rw [List.mem_singleton, hy] at hx
                      exact .inr hx
                · have e2 : Y.2.length ≤ t := by have := of_decide_eq_false e1; omega
                  rw [List.take_of_length_le e2] at im
                  refine ⟨iH, b, is_, im.mono fun x hx hq => ?_⟩
                  rcases hq with hq | ⟨k', hk', hl, hp⟩
                  · exact .inl (.inl hq)
                  · by_cases hkk : k' < k
                    · exact .inl (.inr ⟨k', hkk, hl, hp⟩)
                    · have : k' = k := by omega
                      subst this
                      exact .inr ((PG.at hY _).1 hp)
            · rintro s ⟨iH, i0, i5, i7, i8, b, is_, im⟩
              simp only [go_sem, ↓reduceIte, Nat.reduceEqDiff, reduceCtorEq, Nat.reduceAdd, Nat.reduceLeDiff, Nat.reduceMul, i0, i5, i7, i8, wrap64 ((k : Int) + 1) (by omega) (by omega)]
              exact ⟨hkl, iH, by simp, b, is_, im⟩
          · have hkl : k = g.length := by have := of_decide_eq_false p1; omega
            subst hkl
            refine ⟨jH, b, js, jm.mono fun x hx hq => ?_⟩
            obtain ⟨y, hp, hr2⟩ := hq
            rcases hr2 with hr2 | ⟨c, hr2, hp2⟩
            · exact .inl ⟨y, hp, hr2⟩
            · obtain ⟨k', hk'⟩ := nat_of (PG.in hok hp2).1.1
              subst hk'
              exact .inr ⟨k', by have := (PG.in hok hp2).1.2; simp at this; omega, ⟨y, hp, hr2⟩, hp2⟩
        · rintro s ⟨jH, j0, j5, j7, b, js, jm⟩
          simp only [go_sem, ↓reduceIte, Nat.reduceEqDiff, reduceCtorEq, Nat.reduceAdd, Nat.reduceLeDiff, Nat.reduceMul, j0, j5, j7, wrap64 ((r : Int) + 1) (by omega) (by omega)]
          exact ⟨q2, jH, by simp, b, js, jm⟩
      · have q2 : r = g.length := by have := of_decide_eq_false q1; omega
        subst q2
        have : b = belL g i := (km.mono fun x hx ⟨n, y, hp, hr2⟩ => ⟨y, hp, rnN (fun h hP => PG.in hok hP) (by omega) (by omega) (PG.in hok hp).2 hr2⟩).all
        rw [← this]
        exact ⟨kH, ks⟩
    · rintro s ⟨kH, k5, ks⟩
      simp only [go_sem, ↓reduceIte, Nat.reduceEqDiff, reduceCtorEq, Nat.reduceAdd, Nat.reduceLeDiff, Nat.reduceMul, k5]
      exact ⟨kH, ks, hown⟩
end Go.Proofs.Ytdplmjlbkaipiaa.Ev

/- Loops: the program's and the reference's. -/
namespace Go.Proofs.Ytdplmjlbkaipiaa.Ev
set_option linter.all false
open Go
set_option maxRecDepth 4000

open Classical in
noncomputable def loopP (g : List Group) (i : Int) : Bool := decide (groupsOk g = true ∧ Bel g i i)
noncomputable def loopsL (g : List Group) : List Int := selN (loopP g) g.length
theorem loopP_t {g : List Group} {i : Int} (h : groupsOk g = true ∧ Bel g i i) : loopP g i = true := by
  classical
  unfold loopP; simpa using h
theorem loopP_f {g : List Group} {i : Int} (h : ¬ (groupsOk g = true ∧ Bel g i i)) : loopP g i = false := by
  classical
  unfold loopP; simpa using h
theorem selN_none {p : Int → Bool} (h : ∀ i, p i = false) : ∀ n, selN p n = []
  | 0 => rfl
  | n + 1 => by rw [selN_no (h _), selN_none h n]

theorem f43 {m : Md} {H : Hp} {v : Value} {g : List Group} (hg : SlG H v g) (hle : g.length ≤ 1048576) (hw : Wr m H) : Fun EE m 43 [v] H fun r H' => FreshS eI 1 H r H' (loopsL g) := by
  refine fun_f rfl rfl k43 (by simp [c43]) ?_
  have p0 : H <+: H ++ [[]] := List.prefix_append _ _
  have s0 : SlI (H ++ [[]]) (.slice (some ⟨H.length, 0, some 1⟩) 0 (0 * 1)) [] := own_new
  have o0 : OwnS H.length (.slice (some ⟨H.length, 0, some 1⟩) 0 (0 * 1)) := .inr ⟨_, _, _, _, rfl, Nat.le_refl _⟩
  generalize hwv : Value.slice (some ⟨H.length, 0, some 1⟩) 0 (0 * 1) = wv0 at s0 o0
  simp only [go_sem, ↓reduceIte, Nat.reduceEqDiff, reduceCtorEq, Nat.reduceAdd, Nat.reduceLeDiff, Nat.reduceMul, c43, fillL, hwv]
  refine go_for g.length (fun i s => H <+: s.H ∧ s.ρ 0 = .val v ∧ s.ρ 4 = .val (.int .i64 i) ∧ ∃ wv, s.ρ 3 = .val wv ∧ SlI s.H wv (selN (loopP g) i) ∧ OwnS H.length wv)
    (fun s => H <+: s.H ∧ ∃ wv, s.ρ 3 = .val wv ∧ SlI s.H wv (loopsL g) ∧ OwnS H.length wv) ?_ ?_ ?_
  · exact ⟨p0, by simp [upd, ini], by simp [upd], wv0, by simp [upd], s0, o0⟩
  · rintro i s hi ⟨kH, k0, k4, wv, k3, ks, ko⟩
    have kw := hw.pre kH
    have kg := hg.preG kH
    have a39 := fun {m draw s d ts Q} => callT_at (m := m) (draw := draw) (s := s) (d := d) (ts := ts) (Q := Q) (f39 kg)
    simp only [go_sem, ↓reduceIte, Nat.reduceEqDiff, reduceCtorEq, Nat.reduceAdd, Nat.reduceLeDiff, Nat.reduceMul, k0, k3, k4, kg.len]
    refine brT.intro (fun c1 => ?_) (fun c1 => ?_) <;> simp only [go_sem, ↓reduceIte, Nat.reduceEqDiff, reduceCtorEq, Nat.reduceAdd, Nat.reduceLeDiff, Nat.reduceMul, c1, k0, k3, k4, a39, kw]
    · have h8 : i < g.length := by have := of_decide_eq_true c1; omega
      refine brT.intro (fun c2 => ?_) (fun c2 => ?_) <;> simp only [go_sem, ↓reduceIte, Nat.reduceEqDiff, reduceCtorEq, Nat.reduceAdd, Nat.reduceLeDiff, Nat.reduceMul, c1, c2, k0, k3, k4]
      · refine callT_to (fun m' h => f80 kg c2 h8 h) rfl kw fun bv H2 ⟨p2, s2, o2⟩ => ?_
        obtain ⟨c, hc⟩ : ∃ c, (belL g i)[i]? = some c := ⟨_, List.getElem?_eq_getElem (by simpa [belL] using h8)⟩
        obtain ⟨idc, pc, oc, hoc, hrc, hiac⟩ := s2.bool hc
        cases c with
        | false =>
          simp only [go_sem, ↓reduceIte, Nat.reduceEqDiff, reduceCtorEq, Nat.reduceAdd, Nat.reduceLeDiff, Nat.reduceMul, k0, k3, k4, hiac, hoc, hrc, wrap64 ((i : Int) + 1) (by omega) (by omega)]
          refine ⟨h8, kH.trans p2, by simp, wv, rfl, ?_, ko⟩
          rw [selN_no (loopP_f fun h => by have := (belL_get hc).2 h.2; cases this)]
          exact ks.pre p2
        | true =>
          have hlen := selN_len (loopP g) i
          obtain ⟨v3, H3, d1, d2, d3, d4, d5, d6, d7⟩ := (ks.pre p2).one (m := m) (i : Int) ko (Nat.le_trans kH.length_le p2.length_le) hw (by omega)
          simp only [go_sem, ↓reduceIte, Nat.reduceEqDiff, reduceCtorEq, Nat.reduceAdd, Nat.reduceLeDiff, Nat.reduceMul, k0, k3, k4, hiac, hoc, hrc]
          rw [d1]
          rotate_left
          · rfl
          · rfl
          · rfl
          simp only [go_sem, ↓reduceIte, Nat.reduceEqDiff, reduceCtorEq, Nat.reduceAdd, Nat.reduceLeDiff, Nat.reduceMul, k0, k3, k4, wrap64 ((i : Int) + 1) (by omega) (by omega)]
          exact ⟨h8, d7 H (Nat.le_refl _) (kH.trans p2), by simp, v3, rfl, by rw [selN_yes (loopP_t ⟨c2, (belL_get hc).1 rfl⟩)]; exact d2, d3⟩
      · refine ⟨kH, wv, rfl, ?_, ko⟩
        have hp : ∀ j, loopP g j = false := fun j => loopP_f fun h => by rw [c2] at h; exact absurd h.1 (by simp)
        rw [selN_none hp] at ks
        unfold loopsL
        rw [selN_none hp]
        exact ks
    · have : i = g.length := by have := of_decide_eq_false c1; omega
      subst this
      exact ⟨kH, wv, rfl, ks, ko⟩
  · rintro s ⟨kH, wv, k3, ks, ko⟩
    simp only [go_sem, ↓reduceIte, Nat.reduceEqDiff, reduceCtorEq, Nat.reduceAdd, Nat.reduceLeDiff, Nat.reduceMul, k3]
    exact ⟨kH, ks, ko⟩

theorem f44 {m : Md} {H : Hp} {v : Value} {g : List Group} (hg : SlG H v g) (hw : Wr m H) : Fun EE m 44 [v] H fun r H' => FreshS eI 1 H r H' (loopsL g) := by
  refine fun_f rfl rfl k44 (by simp [c44]) ?_
  have p0 : H <+: H ++ [[]] := List.prefix_append _ _
  have s0 : SlI (H ++ [[]]) (.slice (some ⟨H.length, 0, some 1⟩) 0 (0 * 1)) [] := own_new
  have o0 : OwnS H.length (.slice (some ⟨H.length, 0, some 1⟩) 0 (0 * 1)) := .inr ⟨_, _, _, _, rfl, Nat.le_refl _⟩
  generalize hwv : Value.slice (some ⟨H.length, 0, some 1⟩) 0 (0 * 1) = wv0 at s0 o0
  have a41 := fun {m draw s d ts Q} => callT_at (m := m) (draw := draw) (s := s) (d := d) (ts := ts) (Q := Q) (f41 (hg.preG p0))
  have w0 := hw.pre p0
  simp only [go_sem, ↓reduceIte, Nat.reduceEqDiff, reduceCtorEq, Nat.reduceAdd, Nat.reduceLeDiff, Nat.reduceMul, c44, fillL, hwv, a41, w0]
  refine brT.intro (fun hok => ?_) (fun hok => ?_) <;> simp only [go_sem, ↓reduceIte, Nat.reduceEqDiff, reduceCtorEq, Nat.reduceAdd, Nat.reduceLeDiff, Nat.reduceMul, (hg.preG p0).len]
  rotate_left
  · have : loopsL g = [] := selN_none (fun j => loopP_f fun h => by rw [hok] at h; exact absurd h.1 (by simp)) _
    rw [this]
    exact ⟨p0, s0, o0⟩
  have hg8 := (groupsOk_in hok).1
  refine go_for g.length (fun i s => H <+: s.H ∧ s.ρ 0 = .val v ∧ s.ρ 11 = .val v ∧ s.ρ 12 = .val (.int .i64 g.length) ∧ s.ρ 13 = .val (.int .i64 i) ∧ ∃ wv, s.ρ 3 = .val wv ∧ SlI s.H wv (selN (loopP g) i) ∧ OwnS H.length wv)
    (fun s => H <+: s.H ∧ ∃ wv, s.ρ 3 = .val wv ∧ SlI s.H wv (loopsL g) ∧ OwnS H.length wv) ?_ ?_ ?_
  · exact ⟨p0, by simp [upd, ini], by simp [upd, ini], by simp [upd], by simp [upd], wv0, by simp [upd], s0, o0⟩
  · rintro i s hi ⟨kH, k0, k11, k12, k13, wv, k3, ks, ko⟩
    have kw := hw.pre kH
    have kg := hg.preG kH
    simp only [go_sem, ↓reduceIte, Nat.reduceEqDiff, reduceCtorEq, Nat.reduceAdd, Nat.reduceLeDiff, Nat.reduceMul, k0, k3, k11, k12, k13]
    refine brT.intro (fun c1 => ?_) (fun c1 => ?_) <;> simp only [go_sem, ↓reduceIte, Nat.reduceEqDiff, reduceCtorEq, Nat.reduceAdd, Nat.reduceLeDiff, Nat.reduceMul, k0, k3, k11, k12, k13]
    · have h8 : i < g.length := by have := of_decide_eq_true c1; omega
      obtain ⟨X, hX⟩ : ∃ X, g[i]? = some X := ⟨_, List.getElem?_eq_getElem h8⟩
      obtain ⟨idX, pX, oX, uX, zX, hoX, _, hzX, hrX, hpX, hsuX, hsX, hiaX⟩ := kg.group hX
      have hR := ((groupsOk_in hok).2 i X hX).2
      simp only [go_sem, ↓reduceIte, Nat.reduceEqDiff, reduceCtorEq, Nat.reduceAdd, Nat.reduceLeDiff, Nat.reduceMul, k0, k3, k11, k12, k13, hiaX, hoX, hrX, hpX]
      refine callT_to (fun m' h => f81 kg hok hsX (rise_nodup hR.2) (fun y hy => (PG.in hok ((PG.at hX y).2 hy)).2) h) rfl kw fun bv H2 ⟨gl, ⟨p2, s2, o2⟩, hb⟩ => ?_
      have a62 := fun {m draw s d ts Q} => callT_at (m := m) (draw := draw) (s := s) (d := d) (ts := ts) (Q := Q) (f62 (h := (i : Int)) s2)
      have w2 := kw.pre p2
      have key : (i : Int) ∈ gl ↔ Bel g i i := by
        rw [hb.end_]
        constructor
        · rintro ⟨y, hy, n, hn⟩
          exact ⟨n, y, (PG.at hX y).2 hy, hn⟩
        · rintro ⟨n, y, hy, hn⟩
          exact ⟨y, (PG.at hX y).1 hy, n, hn⟩
      simp only [go_sem, ↓reduceIte, Nat.reduceEqDiff, reduceCtorEq, Nat.reduceAdd, Nat.reduceLeDiff, Nat.reduceMul, k0, k3, k11, k12, k13, a62, w2]
      refine brT.intro (fun c2 => ?_) (fun c2 => ?_) <;> simp only [go_sem, ↓reduceIte, Nat.reduceEqDiff, reduceCtorEq, Nat.reduceAdd, Nat.reduceLeDiff, Nat.reduceMul, k0, k3, k11, k12, k13, wrap64 ((i : Int) + 1) (by omega) (by omega)]
      · have hlen := selN_len (loopP g) i
        obtain ⟨v3, H3, d1, d2, d3, d4, d5, d6, d7⟩ := (ks.pre p2).one (m := m) (i : Int) ko (Nat.le_trans kH.length_le p2.length_le) hw (by omega)
        rw [d1]
        rotate_left
        · rfl
        · rfl
        · rfl
        simp only [go_sem, ↓reduceIte, Nat.reduceEqDiff, reduceCtorEq, Nat.reduceAdd, Nat.reduceLeDiff, Nat.reduceMul, k0, k3, k11, k12, k13, wrap64 ((i : Int) + 1) (by omega) (by omega)]
        exact ⟨h8, d7 H (Nat.le_refl _) (kH.trans p2), by simp, v3, rfl, by rw [selN_yes (loopP_t ⟨hok, key.1 (of_decide_eq_true c2)⟩)]; exact d2, d3⟩
      · refine ⟨h8, kH.trans p2, by simp, wv, rfl, ?_, ko⟩
        rw [selN_no (loopP_f fun h => of_decide_eq_false c2 (key.2 h.2))]
        exact ks.pre p2
    · have : i = g.length := by have := of_decide_eq_false c1; omega
      subst this
      exact ⟨kH, wv, rfl, ks, ko⟩
  · rintro s ⟨kH, wv, k3, ks, ko⟩
    simp only [go_sem, ↓reduceIte, Nat.reduceEqDiff, reduceCtorEq, Nat.reduceAdd, Nat.reduceLeDiff, Nat.reduceMul, k3]
    exact ⟨kH, ks, ko⟩
end Go.Proofs.Ytdplmjlbkaipiaa.Ev

/- The law Loops. -/
namespace Go.Proofs.Ytdplmjlbkaipiaa.Ev
set_option linter.all false
open Go
set_option maxRecDepth 4000

/-- Rows as long as before. -/
def SL (H H' : Hp) : Prop := H'.length = H.length ∧ ∀ (j : Nat) (o : List Value), H[j]? = some o → ∃ o' : List Value, H'[j]? = some o' ∧ o'.length = o.length
theorem SL.refl (H : Hp) : SL H H := ⟨rfl, fun j o h => ⟨o, h, rfl⟩⟩
theorem SL.trans {H H' H'' : Hp} (h : SL H H') (k : SL H' H'') : SL H H'' := ⟨k.1.trans h.1, fun j o ho => by
  obtain ⟨o', h1, h2⟩ := h.2 j o ho
  obtain ⟨o'', k1, k2⟩ := k.2 j o' h1
  exact ⟨o'', k1, k2.trans h2⟩⟩
theorem SL.set {H : Hp} {id : Nat} {o o' : List Value} (ho : H[id]? = some o) (hl : o'.length = o.length) : SL H (H.set id o') := ⟨by simp, fun j p hp => by
  by_cases e : id = j
  · subst e
    rw [ho] at hp
    cases hp
    exact ⟨o', List.getElem?_set_self (List.getElem?_eq_some_iff.1 ho).1, hl⟩
  · exact ⟨p, by rw [List.getElem?_set_ne e]; exact hp, rfl⟩⟩
theorem Sl.sl {α : Type} {esz : Nat} {H H' : Hp} {v : Value} {l : List α} (h : Sl (fun _ _ => True) esz H v l) (hs : SL H H') : Sl (fun (_ : α) _ => True) esz H' v l := by
  rcases h with ⟨rfl, rfl⟩ | ⟨id, off, cap, o, rfl, ho, hc, hn, hrm, hr⟩
  · exact .inl ⟨rfl, rfl⟩
  · obtain ⟨o', h1, h2⟩ := hs.2 id o ho
    exact .inr ⟨id, off, cap, o', rfl, h1, by rw [h2]; exact hc, hn, hrm, fun _ _ _ => trivial⟩

abbrev SlZ (H : Hp) (v : Value) (l : List Int) : Prop := Sl (fun _ _ => True) 1 H v l

/-- Groups whose numbers lie in later rows. -/
def RGm (x M : Nat) (H : Hp) (g : Group) (cs : List Value) : Prop := ∃ u s, cs = [u, s] ∧ SlZ H u g.1 ∧ SlZ H s g.2 ∧ (∀ j ∈ idsOf u, x < j ∧ j < M) ∧ ∀ j ∈ idsOf s, x < j ∧ j < M

end Go.Proofs.Ytdplmjlbkaipiaa.Ev

/- Copies of groups, and where their numbers lie. -/
namespace Go.Proofs.Ytdplmjlbkaipiaa.Ev
set_option linter.all false
open Go
set_option maxRecDepth 4000

/-- Groups whose numbers lie in later rows. -/
def RGk (x : Nat) (H : Hp) (g : Group) (cs : List Value) : Prop := ∃ u s, cs = [u, s] ∧ SlI H u g.1 ∧ SlI H s g.2 ∧ (∀ j ∈ idsOf u, x < j) ∧ ∀ j ∈ idsOf s, x < j
theorem RGk.rg {x : Nat} {H : Hp} {g : Group} {cs : List Value} (h : RGk x H g cs) : RG H g cs := by
  obtain ⟨u, s, e, a, b, _⟩ := h
  exact ⟨u, s, e, a, b⟩
theorem RGk.m {x : Nat} {H : Hp} {g : Group} {cs : List Value} (h : RGk x H g cs) : RGm x H.length H g cs := by
  obtain ⟨u, s, e, a, b, c, d⟩ := h
  exact ⟨u, s, e, a.blank, b.blank, fun j hj => ⟨c j hj, a.ids j hj⟩, fun j hj => ⟨d j hj, b.ids j hj⟩⟩
theorem RGk.pre {x : Nat} {H H' : Hp} {g : Group} {cs : List Value} (h : RGk x H g cs) (hp : H <+: H') : RGk x H' g cs := by
  obtain ⟨u, s, e, a, b, c⟩ := h
  exact ⟨u, s, e, a.pre hp, b.pre hp, c⟩
theorem RGk.set {x : Nat} {H : Hp} {r : List Value} {g : Group} {cs : List Value} (h : RGk x H g cs) : RGk x (H.set x r) g cs := by
  obtain ⟨u, s, e, a, b, c, d⟩ := h
  exact ⟨u, s, e, a.other (fun h => by have := c _ h; omega), b.other (fun h => by have := d _ h; omega), c, d⟩

structure FreshM (H : Hp) (v : Value) (H' : Hp) (l : List Group) : Prop where
  pre : H <+: H'
  sl : Sl (RGk H.length H') 2 H' v l
  own : OwnS H.length v
  le : ∀ j ∈ idsOf v, j ≤ H.length
theorem FreshM.g {H H' : Hp} {v : Value} {l : List Group} (h : FreshM H v H' l) : SlG H' v l := h.sl.frame (fun _ _ _ h => h.rg) fun _ _ _ _ _ _ => rfl
theorem FreshM.m {H H' : Hp} {v : Value} {l : List Group} (h : FreshM H v H' l) : Sl (RGm H.length H'.length H') 2 H' v l := h.sl.frame (fun _ _ _ h => h.m) fun _ _ _ _ _ _ => rfl

theorem RGm.pre {x M : Nat} {H H' : Hp} {g : Group} {cs : List Value} (h : RGm x M H g cs) (hp : H <+: H') : RGm x M H' g cs := by
  obtain ⟨u, s, e, a, b, c⟩ := h
  exact ⟨u, s, e, a.pre hp, b.pre hp, c⟩
end Go.Proofs.Ytdplmjlbkaipiaa.Ev

/- Code of the program's functions, as the small machine has it: written by mkcode.py. -/
namespace Go.Proofs.Ytdplmjlbkaipiaa.Ev
set_option linter.all false
open Go
def c11 : CF := ⟨74, (.seq (.reg false [⟨(some 4), .none, (.mov (.c (.bool false))), 0, []⟩]) (.seq (.reg false [⟨(some 5), .none, (.mov (.c (.int .i64 1048576))), 0, []⟩]) (.seq (.reg false [⟨(some 13), .none, (.mov (.t 0)), 0, []⟩, ⟨(some 14), .none, (.mov (.t 5)), 1, []⟩, ⟨(some 15), .none, (.call 38 [(.t 13), (.t 14)]), 2, []⟩, ⟨(some 5), .none, (.mov (.t 15)), 3, []⟩]) (.seq (.seq (.reg false [⟨(some 16), .none, (.mov (.t 5)), 0, []⟩, ⟨(some 17), .none, (.bin .lss (.t 16) (.c (.int .i64 0))), 1, []⟩]) (.cond (.t 17) (.seq (.reg false [⟨(some 4), .none, (.mov (.c (.bool true))), 0, []⟩]) .ret) .skip)) (.seq (.reg false [⟨(some 18), .none, (.mov (.t 0)), 0, []⟩, ⟨(some 19), .none, (.call 40 [(.t 18)]), 1, []⟩, ⟨(some 20), .none, (.mov (.t 1)), 2, []⟩, ⟨(some 21), .none, (.call 46 [(.t 19), (.t 20)]), 3, []⟩, ⟨(some 6), .none, (.mov (.t 21)), 4, []⟩]) (.seq (.reg false [⟨(some 22), .none, (.mov (.t 0)), 0, []⟩, ⟨(some 23), .none, (.call 40 [(.t 22)]), 1, []⟩, ⟨(some 7), .none, (.mov (.t 23)), 2, []⟩]) (.seq (.reg false [⟨(some 24), .none, (.mov (.t 7)), 0, []⟩, ⟨(some 25), .none, (.mov (.t 1)), 1, []⟩, ⟨(some 26), .none, (.call 47 [(.t 24), (.t 25)]), 2, []⟩, ⟨(some 8), .none, (.mov (.t 26)), 3, []⟩]) (.seq (.seq (.reg false [⟨(some 27), .none, (.mov (.t 8)), 0, []⟩, ⟨(some 28), .none, (.mov (.t 6)), 1, []⟩, ⟨(some 29), .none, (.call 23 [(.t 27), (.t 28)]), 2, []⟩, ⟨(some 30), .none, (.un .not (.t 29)), 3, []⟩]) (.cond (.t 30) (.seq (.reg false [⟨(some 4), .none, (.mov (.c (.bool false))), 0, []⟩]) .ret) .skip)) (.seq (.seq (.reg false [⟨(some 31), .none, (.mov (.t 7)), 0, []⟩, ⟨(some 32), .none, (.mov (.t 0)), 1, []⟩, ⟨(some 33), .none, (.call 40 [(.t 32)]), 2, []⟩, ⟨(some 34), .none, (.call 42 [(.t 31), (.t 33)]), 3, []⟩, ⟨(some 35), .none, (.un .not (.t 34)), 4, []⟩]) (.cond (.t 35) (.seq (.reg false [⟨(some 4), .none, (.mov (.c (.bool false))), 0, []⟩]) .ret) .skip)) (.seq (.reg false [⟨(some 9), .none, (.mov (.c (.int .i64 1))), 0, []⟩]) (.seq (.reg false [⟨(some 36), .none, (.mov (.t 7)), 0, []⟩, ⟨(some 37), .none, (.mov (.t 9)), 1, []⟩, ⟨(some 38), .none, (.call 45 [(.t 36), (.t 37)]), 2, []⟩, ⟨(some 9), .none, (.mov (.t 38)), 3, []⟩]) (.seq (.seq (.reg false [⟨(some 39), .none, (.mov (.t 9)), 0, []⟩, ⟨(some 40), .none, (.bin .lss (.t 39) (.c (.int .i64 0))), 1, []⟩, ⟨(some 41), .none, (.mov (.t 40)), 2, []⟩, ⟨(some 42), (.some (41, false)), (.mov (.t 8)), 3, []⟩, ⟨(some 43), (.some (41, false)), (.mov (.t 6)), 4, []⟩, ⟨(some 44), (.some (41, false)), (.call 23 [(.t 42), (.t 43)]), 5, []⟩, ⟨(some 45), (.some (41, false)), (.un .not (.t 44)), 6, []⟩, ⟨(some 46), .none, (.pick (.t 41) (.c (.bool true)) (.t 45)), 7, []⟩]) (.cond (.t 46) (.seq (.reg false [⟨(some 4), .none, (.mov (.c (.bool false))), 0, []⟩]) .ret) .skip)) (.seq (.reg false [⟨(some 10), .none, (.mov (.c (.int .i64 1))), 0, []⟩]) (.seq (.reg false [⟨(some 47), .none, (.mov (.t 8)), 0, []⟩, ⟨(some 48), .none, (.mov (.t 10)), 1, []⟩, ⟨(some 49), .none, (.call 27 [(.t 47), (.t 48)]), 2, []⟩, ⟨(some 10), .none, (.mov (.t 49)), 3, []⟩]) (.seq (.reg false [⟨(some 11), .none, (.mov (.c (.int .i64 1))), 0, []⟩]) (.seq (.reg false [⟨(some 50), .none, (.mov (.t 8)), 0, []⟩, ⟨(some 51), .none, (.mov (.t 11)), 1, []⟩, ⟨(some 52), .none, (.call 28 [(.t 50), (.t 51)]), 2, []⟩, ⟨(some 11), .none, (.mov (.t 52)), 3, []⟩]) (.seq (.seq (.reg false [⟨(some 53), .none, (.mov (.t 11)), 0, []⟩, ⟨(some 54), .none, (.bin .lss (.t 53) (.c (.int .i64 0))), 1, []⟩]) (.cond (.t 54) (.seq (.reg false [⟨(some 4), .none, (.mov (.c (.bool false))), 0, []⟩]) .ret) .skip)) (.seq (.seq (.reg false [⟨(some 55), .none, (.mov (.t 11)), 0, []⟩, ⟨(some 56), .none, (.mov (.t 10)), 1, []⟩, ⟨(some 57), .none, (.bin .neq (.t 55) (.t 56)), 2, []⟩]) (.cond (.t 57) (.seq (.reg false [⟨(some 4), .none, (.mov (.c (.bool false))), 0, []⟩]) .ret) .skip)) (.seq (.reg false [⟨(some 58), .none, (.mov (.t 0)), 0, []⟩, ⟨(some 59), .none, (.call 40 [(.t 58)]), 1, []⟩, ⟨(some 60), .none, (.mov (.t 1)), 2, []⟩, ⟨(some 61), .none, (.call 47 [(.t 59), (.t 60)]), 3, []⟩, ⟨(some 12), .none, (.mov (.t 61)), 4, []⟩]) (.seq (.seq (.reg false [⟨(some 62), .none, (.mov (.t 12)), 0, []⟩, ⟨(some 63), .none, (.mov (.t 6)), 1, []⟩, ⟨(some 64), .none, (.call 23 [(.t 62), (.t 63)]), 2, []⟩, ⟨(some 65), .none, (.un .not (.t 64)), 3, []⟩]) (.cond (.t 65) (.seq (.reg false [⟨(some 4), .none, (.mov (.c (.bool false))), 0, []⟩]) .ret) .skip)) (.seq (.reg false [⟨(some 11), .none, (.mov (.c (.int .i64 1))), 0, []⟩]) (.seq (.reg false [⟨(some 66), .none, (.mov (.t 8)), 0, []⟩, ⟨(some 67), .none, (.mov (.t 11)), 1, []⟩, ⟨(some 68), .none, (.call 28 [(.t 66), (.t 67)]), 2, []⟩, ⟨(some 11), .none, (.mov (.t 68)), 3, []⟩]) (.seq (.seq (.reg false [⟨(some 69), .none, (.mov (.t 11)), 0, []⟩, ⟨(some 70), .none, (.bin .lss (.t 69) (.c (.int .i64 0))), 1, []⟩]) (.cond (.t 70) (.seq (.reg false [⟨(some 4), .none, (.mov (.c (.bool false))), 0, []⟩]) .ret) .skip)) (.seq (.seq (.reg false [⟨(some 71), .none, (.mov (.t 11)), 0, []⟩, ⟨(some 72), .none, (.mov (.t 10)), 1, []⟩, ⟨(some 73), .none, (.bin .neq (.t 71) (.t 72)), 2, []⟩]) (.cond (.t 73) (.seq (.reg false [⟨(some 4), .none, (.mov (.c (.bool false))), 0, []⟩]) .ret) .skip)) (.seq (.reg false [⟨(some 4), .none, (.mov (.c (.bool true))), 0, []⟩]) .ret))))))))))))))))))))))))), [(.t 4)]⟩
theorem k11 : EE.fns 11 = some c11 := by kernel_rfl
def c12 : CF := ⟨74, (.seq (.reg false [⟨(some 4), .none, (.mov (.c (.bool false))), 0, []⟩]) (.seq (.reg false [⟨(some 5), .none, (.mov (.c (.int .i64 1048576))), 0, []⟩]) (.seq (.reg false [⟨(some 13), .none, (.mov (.t 0)), 0, []⟩, ⟨(some 14), .none, (.mov (.t 5)), 1, []⟩, ⟨(some 15), .none, (.call 38 [(.t 13), (.t 14)]), 2, []⟩, ⟨(some 5), .none, (.mov (.t 15)), 3, []⟩]) (.seq (.seq (.reg false [⟨(some 16), .none, (.mov (.t 5)), 0, []⟩, ⟨(some 17), .none, (.bin .lss (.t 16) (.c (.int .i64 0))), 1, []⟩]) (.cond (.t 17) (.seq (.reg false [⟨(some 4), .none, (.mov (.c (.bool true))), 0, []⟩]) .ret) .skip)) (.seq (.reg false [⟨(some 18), .none, (.mov (.t 0)), 0, []⟩, ⟨(some 19), .none, (.call 40 [(.t 18)]), 1, []⟩, ⟨(some 20), .none, (.mov (.t 1)), 2, []⟩, ⟨(some 21), .none, (.call 48 [(.t 19), (.t 20)]), 3, []⟩, ⟨(some 6), .none, (.mov (.t 21)), 4, []⟩]) (.seq (.reg false [⟨(some 22), .none, (.mov (.t 0)), 0, []⟩, ⟨(some 23), .none, (.call 40 [(.t 22)]), 1, []⟩, ⟨(some 7), .none, (.mov (.t 23)), 2, []⟩]) (.seq (.reg false [⟨(some 24), .none, (.mov (.t 7)), 0, []⟩, ⟨(some 25), .none, (.mov (.t 1)), 1, []⟩, ⟨(some 26), .none, (.call 49 [(.t 24), (.t 25)]), 2, []⟩, ⟨(some 8), .none, (.mov (.t 26)), 3, []⟩]) (.seq (.seq (.reg false [⟨(some 27), .none, (.mov (.t 8)), 0, []⟩, ⟨(some 28), .none, (.mov (.t 6)), 1, []⟩, ⟨(some 29), .none, (.call 23 [(.t 27), (.t 28)]), 2, []⟩, ⟨(some 30), .none, (.un .not (.t 29)), 3, []⟩]) (.cond (.t 30) (.seq (.reg false [⟨(some 4), .none, (.mov (.c (.bool false))), 0, []⟩]) .ret) .skip)) (.seq (.seq (.reg false [⟨(some 31), .none, (.mov (.t 7)), 0, []⟩, ⟨(some 32), .none, (.mov (.t 0)), 1, []⟩, ⟨(some 33), .none, (.call 40 [(.t 32)]), 2, []⟩, ⟨(some 34), .none, (.call 42 [(.t 31), (.t 33)]), 3, []⟩, ⟨(some 35), .none, (.un .not (.t 34)), 4, []⟩]) (.cond (.t 35) (.seq (.reg false [⟨(some 4), .none, (.mov (.c (.bool false))), 0, []⟩]) .ret) .skip)) (.seq (.reg false [⟨(some 9), .none, (.mov (.c (.int .i64 1))), 0, []⟩]) (.seq (.reg false [⟨(some 36), .none, (.mov (.t 7)), 0, []⟩, ⟨(some 37), .none, (.mov (.t 9)), 1, []⟩, ⟨(some 38), .none, (.call 45 [(.t 36), (.t 37)]), 2, []⟩, ⟨(some 9), .none, (.mov (.t 38)), 3, []⟩]) (.seq (.seq (.reg false [⟨(some 39), .none, (.mov (.t 9)), 0, []⟩, ⟨(some 40), .none, (.bin .lss (.t 39) (.c (.int .i64 0))), 1, []⟩, ⟨(some 41), .none, (.mov (.t 40)), 2, []⟩, ⟨(some 42), (.some (41, false)), (.mov (.t 8)), 3, []⟩, ⟨(some 43), (.some (41, false)), (.mov (.t 6)), 4, []⟩, ⟨(some 44), (.some (41, false)), (.call 23 [(.t 42), (.t 43)]), 5, []⟩, ⟨(some 45), (.some (41, false)), (.un .not (.t 44)), 6, []⟩, ⟨(some 46), .none, (.pick (.t 41) (.c (.bool true)) (.t 45)), 7, []⟩]) (.cond (.t 46) (.seq (.reg false [⟨(some 4), .none, (.mov (.c (.bool false))), 0, []⟩]) .ret) .skip)) (.seq (.reg false [⟨(some 10), .none, (.mov (.c (.int .i64 1))), 0, []⟩]) (.seq (.reg false [⟨(some 47), .none, (.mov (.t 8)), 0, []⟩, ⟨(some 48), .none, (.mov (.t 10)), 1, []⟩, ⟨(some 49), .none, (.call 27 [(.t 47), (.t 48)]), 2, []⟩, ⟨(some 10), .none, (.mov (.t 49)), 3, []⟩]) (.seq (.reg false [⟨(some 11), .none, (.mov (.c (.int .i64 1))), 0, []⟩]) (.seq (.reg false [⟨(some 50), .none, (.mov (.t 8)), 0, []⟩, ⟨(some 51), .none, (.mov (.t 11)), 1, []⟩, ⟨(some 52), .none, (.call 28 [(.t 50), (.t 51)]), 2, []⟩, ⟨(some 11), .none, (.mov (.t 52)), 3, []⟩]) (.seq (.seq (.reg false [⟨(some 53), .none, (.mov (.t 11)), 0, []⟩, ⟨(some 54), .none, (.bin .lss (.t 53) (.c (.int .i64 0))), 1, []⟩]) (.cond (.t 54) (.seq (.reg false [⟨(some 4), .none, (.mov (.c (.bool false))), 0, []⟩]) .ret) .skip)) (.seq (.seq (.reg false [⟨(some 55), .none, (.mov (.t 11)), 0, []⟩, ⟨(some 56), .none, (.mov (.t 10)), 1, []⟩, ⟨(some 57), .none, (.bin .neq (.t 55) (.t 56)), 2, []⟩]) (.cond (.t 57) (.seq (.reg false [⟨(some 4), .none, (.mov (.c (.bool false))), 0, []⟩]) .ret) .skip)) (.seq (.reg false [⟨(some 58), .none, (.mov (.t 0)), 0, []⟩, ⟨(some 59), .none, (.call 40 [(.t 58)]), 1, []⟩, ⟨(some 60), .none, (.mov (.t 1)), 2, []⟩, ⟨(some 61), .none, (.call 49 [(.t 59), (.t 60)]), 3, []⟩, ⟨(some 12), .none, (.mov (.t 61)), 4, []⟩]) (.seq (.seq (.reg false [⟨(some 62), .none, (.mov (.t 12)), 0, []⟩, ⟨(some 63), .none, (.mov (.t 6)), 1, []⟩, ⟨(some 64), .none, (.call 23 [(.t 62), (.t 63)]), 2, []⟩, ⟨(some 65), .none, (.un .not (.t 64)), 3, []⟩]) (.cond (.t 65) (.seq (.reg false [⟨(some 4), .none, (.mov (.c (.bool false))), 0, []⟩]) .ret) .skip)) (.seq (.reg false [⟨(some 11), .none, (.mov (.c (.int .i64 1))), 0, []⟩]) (.seq (.reg false [⟨(some 66), .none, (.mov (.t 8)), 0, []⟩, ⟨(some 67), .none, (.mov (.t 11)), 1, []⟩, ⟨(some 68), .none, (.call 28 [(.t 66), (.t 67)]), 2, []⟩, ⟨(some 11), .none, (.mov (.t 68)), 3, []⟩]) (.seq (.seq (.reg false [⟨(some 69), .none, (.mov (.t 11)), 0, []⟩, ⟨(some 70), .none, (.bin .lss (.t 69) (.c (.int .i64 0))), 1, []⟩]) (.cond (.t 70) (.seq (.reg false [⟨(some 4), .none, (.mov (.c (.bool false))), 0, []⟩]) .ret) .skip)) (.seq (.seq (.reg false [⟨(some 71), .none, (.mov (.t 11)), 0, []⟩, ⟨(some 72), .none, (.mov (.t 10)), 1, []⟩, ⟨(some 73), .none, (.bin .neq (.t 71) (.t 72)), 2, []⟩]) (.cond (.t 73) (.seq (.reg false [⟨(some 4), .none, (.mov (.c (.bool false))), 0, []⟩]) .ret) .skip)) (.seq (.reg false [⟨(some 4), .none, (.mov (.c (.bool true))), 0, []⟩]) .ret))))))))))))))))))))))))), [(.t 4)]⟩
theorem k12 : EE.fns 12 = some c12 := by kernel_rfl
def c46 : CF := ⟨63, (.seq (.reg false [⟨(some 4), .none, (.mov (.c (.slice .none 0 0))), 0, []⟩]) (.seq (.reg false [⟨(some 10), .none, (.mkO 0 1 [(.int .i64 0)] []), 0, []⟩, ⟨(some 5), .none, (.mov (.t 10)), 1, []⟩]) (.seq (.seq (.reg false [⟨(some 11), .none, (.mov (.t 0)), 0, []⟩, ⟨(some 12), .none, (.call 39 [(.t 11)]), 1, []⟩, ⟨(some 13), .none, (.un .not (.t 12)), 2, []⟩, ⟨(some 14), .none, (.mov (.t 13)), 3, []⟩, ⟨(some 15), (.some (14, false)), (.mov (.t 1)), 4, []⟩, ⟨(some 16), (.some (14, false)), (.bin .lss (.t 15) (.c (.int .i64 0))), 5, []⟩, ⟨(some 17), .none, (.pick (.t 14) (.c (.bool true)) (.t 16)), 6, []⟩, ⟨(some 18), .none, (.mov (.t 17)), 7, []⟩, ⟨(some 19), (.some (18, false)), (.mov (.t 1)), 8, []⟩, ⟨(some 20), (.some (18, false)), (.mov (.t 0)), 9, []⟩, ⟨(some 21), (.some (18, false)), (.lenS (.t 20)), 10, []⟩, ⟨(some 22), (.some (18, false)), (.bin .geq (.t 19) (.t 21)), 11, []⟩, ⟨(some 23), .none, (.pick (.t 18) (.c (.bool true)) (.t 22)), 12, []⟩]) (.cond (.t 23) (.seq (.reg false [⟨(some 24), .none, (.mov (.t 5)), 0, []⟩, ⟨(some 4), .none, (.mov (.t 24)), 1, []⟩]) .ret) .skip)) (.seq (.reg false [⟨(some 25), .none, (.mov (.t 0)), 0, []⟩, ⟨(some 26), .none, (.mov (.t 1)), 1, []⟩, ⟨(some 27), .none, (.call 80 [(.t 25), (.t 26)]), 2, []⟩, ⟨(some 6), .none, (.mov (.t 27)), 3, []⟩]) (.seq (.reg false [⟨(some 28), .none, (.mov (.t 6)), 0, []⟩, ⟨(some 29), .none, (.mov (.t 1)), 1, []⟩, ⟨(some 30), .none, (.iadr 1 (.t 28) (.t 29)), 2, []⟩, ⟨.none, .none, (.store 1 (.t 30) (.c (.bool true))), 3, []⟩]) (.seq (.seq (.reg false [⟨(some 7), .none, (.mov (.c (.int .i64 0))), 0, []⟩]) (.block 0 (.loop (.seq (.seq (.reg false [⟨(some 31), .none, (.mov (.t 7)), 0, []⟩, ⟨(some 32), .none, (.bin .leq (.t 31) (.c (.int .i64 30))), 1, []⟩]) (.cond (.t 32) .skip (.exit 0))) (.seq (.block 1 (.seq (.reg false [⟨(some 8), .none, (.mov (.c (.bool false))), 0, []⟩]) (.seq (.seq (.reg false [⟨(some 9), .none, (.mov (.c (.int .i64 0))), 0, []⟩]) (.block 2 (.loop (.seq (.seq (.reg false [⟨(some 35), .none, (.mov (.t 9)), 0, []⟩, ⟨(some 36), .none, (.mov (.t 0)), 1, []⟩, ⟨(some 37), .none, (.lenS (.t 36)), 2, []⟩, ⟨(some 38), .none, (.bin .lss (.t 35) (.t 37)), 3, []⟩]) (.cond (.t 38) .skip (.exit 2))) (.seq (.block 3 (.reg false [⟨(some 41), .none, (.mov (.t 8)), 0, []⟩, ⟨(some 42), .none, (.mov (.t 41)), 1, []⟩, ⟨(some 43), (.some (42, false)), (.mov (.t 6)), 2, []⟩, ⟨(some 44), (.some (42, false)), (.mov (.t 9)), 3, []⟩, ⟨(some 45), (.some (42, false)), (.iadr 1 (.t 43) (.t 44)), 4, []⟩, ⟨(some 46), (.some (42, false)), (.load 1 false (.t 45)), 5, []⟩, ⟨(some 47), (.some (42, false)), (.mov (.t 46)), 6, []⟩, ⟨(some 48), (.some (47, true)), (.mov (.t 0)), 7, []⟩, ⟨(some 49), (.some (47, true)), (.mov (.t 9)), 8, []⟩, ⟨(some 50), (.some (47, true)), (.iadr 2 (.t 48) (.t 49)), 9, []⟩, ⟨(some 51), (.some (47, true)), (.fadr 0 (.t 50)), 10, []⟩, ⟨(some 52), (.some (47, true)), (.load 1 false (.t 51)), 11, []⟩, ⟨(some 53), (.some (47, true)), (.mov (.t 7)), 12, []⟩, ⟨(some 54), (.some (47, true)), (.call 61 [(.t 52), (.t 53)]), 13, []⟩, ⟨(some 55), (.some (42, false)), (.pick (.t 47) (.t 54) (.c (.bool false))), 14, []⟩, ⟨(some 56), .none, (.pick (.t 42) (.c (.bool true)) (.t 55)), 15, []⟩, ⟨(some 8), .none, (.mov (.t 56)), 16, []⟩])) (.reg false [⟨(some 39), .none, (.mov (.t 9)), 0, []⟩, ⟨(some 40), .none, (.bin .add (.t 39) (.c (.int .i64 1))), 1, []⟩, ⟨(some 9), .none, (.mov (.t 40)), 2, []⟩])))))) (.seq (.reg false [⟨(some 57), .none, (.mov (.t 8)), 0, []⟩]) (.cond (.t 57) (.reg false [⟨(some 58), .none, (.mov (.t 5)), 0, []⟩, ⟨(some 59), .none, (.mov (.t 7)), 1, []⟩, ⟨(some 60), .none, (.mkV 1 1 [(.int .i64 0)] [(0, (.t 59))]), 2, []⟩, ⟨(some 61), .none, (.app 1 8 (.t 58) (.t 60)), 3, []⟩, ⟨(some 5), .none, (.mov (.t 61)), 4, []⟩]) .skip))))) (.reg false [⟨(some 33), .none, (.mov (.t 7)), 0, []⟩, ⟨(some 34), .none, (.bin .add (.t 33) (.c (.int .i64 1))), 1, []⟩, ⟨(some 7), .none, (.mov (.t 34)), 2, []⟩])))))) (.seq (.reg false [⟨(some 62), .none, (.mov (.t 5)), 0, []⟩, ⟨(some 4), .none, (.mov (.t 62)), 1, []⟩]) .ret))))))), [(.t 4)]⟩
theorem k46 : EE.fns 46 = some c46 := by kernel_rfl
def c47 : CF := ⟨40, (.seq (.reg false [⟨(some 4), .none, (.mov (.c (.slice .none 0 0))), 0, []⟩]) (.seq (.reg false [⟨(some 8), .none, (.mkO 0 1 [(.int .i64 0)] []), 0, []⟩, ⟨(some 5), .none, (.mov (.t 8)), 1, []⟩]) (.seq (.seq (.reg false [⟨(some 9), .none, (.mov (.t 0)), 0, []⟩, ⟨(some 10), .none, (.call 41 [(.t 9)]), 1, []⟩, ⟨(some 11), .none, (.un .not (.t 10)), 2, []⟩, ⟨(some 12), .none, (.mov (.t 11)), 3, []⟩, ⟨(some 13), (.some (12, false)), (.mov (.t 1)), 4, []⟩, ⟨(some 14), (.some (12, false)), (.mov (.t 0)), 5, []⟩, ⟨(some 15), (.some (12, false)), (.lenS (.t 14)), 6, []⟩, ⟨(some 16), (.some (12, false)), (.bin .sub (.t 15) (.c (.int .i64 1))), 7, []⟩, ⟨(some 17), (.some (12, false)), (.call 78 [(.t 13), (.c (.int .i64 0)), (.t 16)]), 8, []⟩, ⟨(some 18), (.some (12, false)), (.un .not (.t 17)), 9, []⟩, ⟨(some 19), .none, (.pick (.t 12) (.c (.bool true)) (.t 18)), 10, []⟩]) (.cond (.t 19) (.seq (.reg false [⟨(some 20), .none, (.mov (.t 5)), 0, []⟩, ⟨(some 4), .none, (.mov (.t 20)), 1, []⟩]) .ret) .skip)) (.seq (.seq (.reg false [⟨(some 21), .none, (.mov (.t 0)), 0, []⟩, ⟨(some 22), .none, (.mov (.t 1)), 1, []⟩, ⟨(some 23), .none, (.mkO 1 1 [(.int .i64 0)] [(0, (.t 22))]), 2, []⟩, ⟨(some 24), .none, (.call 81 [(.t 21), (.t 23)]), 3, []⟩, ⟨(some 25), .none, (.lenS (.t 24)), 4, []⟩, ⟨(some 26), .none, (.mov (.c (.int .i64 0))), 5, []⟩]) (.block 0 (.loop (.seq (.reg false [⟨(some 27), .none, (.bin .lss (.t 26) (.t 25)), 0, []⟩]) (.seq (.cond (.t 27) .skip (.exit 0)) (.seq (.block 1 (.seq (.reg false [⟨(some 28), .none, (.iadr 1 (.t 24) (.t 26)), 0, []⟩, ⟨(some 29), .none, (.load 1 false (.t 28)), 1, []⟩, ⟨(some 7), .none, (.mov (.t 29)), 2, []⟩]) (.reg false [⟨(some 30), .none, (.mov (.t 5)), 0, []⟩, ⟨(some 31), .none, (.mov (.t 0)), 1, []⟩, ⟨(some 32), .none, (.mov (.t 7)), 2, []⟩, ⟨(some 33), .none, (.iadr 2 (.t 31) (.t 32)), 3, []⟩, ⟨(some 34), .none, (.fadr 0 (.t 33)), 4, []⟩, ⟨(some 35), .none, (.load 1 false (.t 34)), 5, []⟩, ⟨(some 36), .none, (.app 1 8 (.t 30) (.t 35)), 6, []⟩, ⟨(some 5), .none, (.mov (.t 36)), 7, []⟩]))) (.reg false [⟨(some 37), .none, (.bin .add (.t 26) (.c (.int .i64 1))), 0, []⟩, ⟨(some 26), .none, (.mov (.t 37)), 1, []⟩]))))))) (.seq (.reg false [⟨(some 38), .none, (.mov (.t 5)), 0, []⟩, ⟨(some 39), .none, (.call 66 [(.t 38)]), 1, []⟩, ⟨(some 4), .none, (.mov (.t 39)), 2, []⟩]) .ret))))), [(.t 4)]⟩
theorem k47 : EE.fns 47 = some c47 := by kernel_rfl
def c48 : CF := ⟨24, (.seq (.reg false [⟨(some 4), .none, (.mov (.c (.slice .none 0 0))), 0, []⟩]) (.seq (.reg false [⟨(some 7), .none, (.mkO 0 1 [(.int .i64 0)] []), 0, []⟩, ⟨(some 5), .none, (.mov (.t 7)), 1, []⟩]) (.seq (.seq (.reg false [⟨(some 6), .none, (.mov (.c (.int .i64 0))), 0, []⟩]) (.block 0 (.loop (.seq (.seq (.reg false [⟨(some 8), .none, (.mov (.t 6)), 0, []⟩, ⟨(some 9), .none, (.mov (.t 0)), 1, []⟩, ⟨(some 10), .none, (.lenS (.t 9)), 2, []⟩, ⟨(some 11), .none, (.bin .lss (.t 8) (.t 10)), 3, []⟩]) (.cond (.t 11) .skip (.exit 0))) (.seq (.block 1 (.seq (.reg false [⟨(some 14), .none, (.mov (.t 0)), 0, []⟩, ⟨(some 15), .none, (.mov (.t 6)), 1, []⟩, ⟨(some 16), .none, (.call 46 [(.t 14), (.t 15)]), 2, []⟩, ⟨(some 17), .none, (.mov (.t 1)), 3, []⟩, ⟨(some 18), .none, (.call 61 [(.t 16), (.t 17)]), 4, []⟩]) (.cond (.t 18) (.reg false [⟨(some 19), .none, (.mov (.t 5)), 0, []⟩, ⟨(some 20), .none, (.mov (.t 6)), 1, []⟩, ⟨(some 21), .none, (.mkV 1 1 [(.int .i64 0)] [(0, (.t 20))]), 2, []⟩, ⟨(some 22), .none, (.app 1 8 (.t 19) (.t 21)), 3, []⟩, ⟨(some 5), .none, (.mov (.t 22)), 4, []⟩]) .skip))) (.reg false [⟨(some 12), .none, (.mov (.t 6)), 0, []⟩, ⟨(some 13), .none, (.bin .add (.t 12) (.c (.int .i64 1))), 1, []⟩, ⟨(some 6), .none, (.mov (.t 13)), 2, []⟩])))))) (.seq (.reg false [⟨(some 23), .none, (.mov (.t 5)), 0, []⟩, ⟨(some 4), .none, (.mov (.t 23)), 1, []⟩]) .ret)))), [(.t 4)]⟩
theorem k48 : EE.fns 48 = some c48 := by kernel_rfl
def c49 : CF := ⟨24, (.seq (.reg false [⟨(some 4), .none, (.mov (.c (.slice .none 0 0))), 0, []⟩]) (.seq (.reg false [⟨(some 7), .none, (.mkO 0 1 [(.int .i64 0)] []), 0, []⟩, ⟨(some 5), .none, (.mov (.t 7)), 1, []⟩]) (.seq (.seq (.reg false [⟨(some 8), .none, (.mov (.t 0)), 0, []⟩, ⟨(some 9), .none, (.lenS (.t 8)), 1, []⟩, ⟨(some 10), .none, (.mov (.c (.int .i64 0))), 2, []⟩]) (.block 0 (.loop (.seq (.reg false [⟨(some 11), .none, (.bin .lss (.t 10) (.t 9)), 0, []⟩]) (.seq (.cond (.t 11) .skip (.exit 0)) (.seq (.block 1 (.seq (.reg false [⟨(some 12), .none, (.mov (.t 10)), 0, []⟩, ⟨(some 6), .none, (.mov (.t 12)), 1, []⟩]) (.seq (.reg false [⟨(some 13), .none, (.mov (.t 0)), 0, []⟩, ⟨(some 14), .none, (.mov (.t 6)), 1, []⟩, ⟨(some 15), .none, (.call 47 [(.t 13), (.t 14)]), 2, []⟩, ⟨(some 16), .none, (.mov (.t 1)), 3, []⟩, ⟨(some 17), .none, (.call 62 [(.t 15), (.t 16)]), 4, []⟩]) (.cond (.t 17) (.reg false [⟨(some 18), .none, (.mov (.t 5)), 0, []⟩, ⟨(some 19), .none, (.mov (.t 6)), 1, []⟩, ⟨(some 20), .none, (.mkV 1 1 [(.int .i64 0)] [(0, (.t 19))]), 2, []⟩, ⟨(some 21), .none, (.app 1 8 (.t 18) (.t 20)), 3, []⟩, ⟨(some 5), .none, (.mov (.t 21)), 4, []⟩]) .skip)))) (.reg false [⟨(some 22), .none, (.bin .add (.t 10) (.c (.int .i64 1))), 0, []⟩, ⟨(some 10), .none, (.mov (.t 22)), 1, []⟩]))))))) (.seq (.reg false [⟨(some 23), .none, (.mov (.t 5)), 0, []⟩, ⟨(some 4), .none, (.mov (.t 23)), 1, []⟩]) .ret)))), [(.t 4)]⟩
theorem k49 : EE.fns 49 = some c49 := by kernel_rfl
end Go.Proofs.Ytdplmjlbkaipiaa.Ev

/- Who belongs to a group: plain, and the reference's way. -/
namespace Go.Proofs.Ytdplmjlbkaipiaa.Ev
set_option linter.all false
open Go
set_option maxRecDepth 4000

/-- A row of numbers behind another one. -/
theorem Sl.joinI {m : Md} {N : Nat} {H : Hp} {v u : Value} {l l2 : List Int} (h : SlI H v l) (h2 : SlI H u l2) (ho : OwnS N v) (hN : N ≤ H.length) (hw : ∀ id, N ≤ id → m.wr id = true) (hb : l.length + l2.length ≤ 1048576) :
    ∃ v' H', (∀ (s : St) (x y : X), s.H = H → exv s.ρ x = some v → ex s.ρ y = .val u → appK m s 1 8 x y = some (.val v', { s with H := H' })) ∧ SlI H' v' (l ++ l2) ∧ OwnS N v' ∧
      (∀ j, j < H.length → j ∉ idsOf v → H'[j]? = H[j]?) ∧ H.length ≤ H'.length ∧ (∀ j ∈ idsOf v', j ∈ idsOf v ∨ H.length ≤ j) ∧ ∀ H0 : Hp, H0.length ≤ N → H0 <+: H → H0 <+: H' := by
  obtain ⟨cs, hsrc, hcs, hel⟩ := h2.src
  by_cases h0 : l2.length = 0
  · have : l2 = [] := List.eq_nil_of_length_eq_zero h0
    subst this
    refine ⟨v, H, fun s x y hH hx hy => ?_, by simpa using h, ho, fun _ _ _ => rfl, Nat.le_refl _, fun j hj => .inl hj, fun _ _ h => h⟩
    subst hH
    unfold appK
    rw [hx, hy, hsrc]
    rcases h with ⟨rfl, _⟩ | ⟨_, _, _, _, rfl, _⟩ <;> rfl
  · have hall : cs.all scal = true := by
      rw [List.all_eq_true]
      intro c hc
      obtain ⟨j, hj⟩ := List.getElem?_of_mem hc
      have hjl : j < l2.length := by have := (List.getElem?_eq_some_iff.1 hj).1; omega
      have := hel j _ (List.getElem?_eq_getElem hjl)
      unfold En eI at this
      have h3 := getElem?_of_take this (j := 0) (by omega)
      rw [Nat.mul_one, Nat.add_zero, hj] at h3
      have h4 : c = .int .i64 l2[j] := by simpa using h3
      subst h4
      rfl
    obtain ⟨v', H', h1, h2'⟩ := h.app (m := m) (n := 1) (bytes := 8) (l2 := l2) (cs := cs) ho hN hw (fun _ => hall) (by omega) hcs hel (by unfold Ev.room; omega) (by unfold Ev.room; omega)
    exact ⟨v', H', fun s x y hH hx hy => h1 s x y hH hx (by rw [hy]; exact hsrc), h2'⟩

/-- Who belongs to a group, or to one below it. -/
def UserP (g : List Group) (i u : Int) : Prop := ∃ (k : Nat) (x : Group), g[k]? = some x ∧ ((k : Int) = i ∨ Bel g i k) ∧ u ∈ x.1
open Classical in
noncomputable def userP (g : List Group) (i u : Int) : Bool := decide (UserP g i u)
theorem userP_t {g : List Group} {i u : Int} : userP g i u = true ↔ UserP g i u := by
  classical
  unfold userP; simp
noncomputable def usersL (g : List Group) (i : Int) : List Int := if groupsOk g = true ∧ 0 ≤ i ∧ i < g.length then selN (userP g i) 31 else []

theorem f46 {m : Md} {H : Hp} {v : Value} {g : List Group} {i : Int} (hg : SlG H v g) (hw : Wr m H) : Fun EE m 46 [v, .int .i64 i] H fun r H' => FreshS eI 1 H r H' (usersL g i) := by
  refine fun_f rfl rfl k46 (by simp [c46]) ?_
  have p0 : H <+: H ++ [[]] := List.prefix_append _ _
  have s0 : SlI (H ++ [[]]) (.slice (some ⟨H.length, 0, some 1⟩) 0 (0 * 1)) [] := own_new
  have o0 : OwnS H.length (.slice (some ⟨H.length, 0, some 1⟩) 0 (0 * 1)) := .inr ⟨_, _, _, _, rfl, Nat.le_refl _⟩
  have i0 : idsOf (.slice (some ⟨H.length, 0, some 1⟩) 0 (0 * 1)) = [H.length] := rfl
  generalize hwv : Value.slice (some ⟨H.length, 0, some 1⟩) 0 (0 * 1) = wv0 at s0 o0 i0
  have hg0 := hg.preG p0
  have w0 := hw.pre p0
  have a39 := fun {m draw s d ts Q} => callT_at (m := m) (draw := draw) (s := s) (d := d) (ts := ts) (Q := Q) (f39 hg0)
  have none : ¬ (groupsOk g = true ∧ 0 ≤ i ∧ i < g.length) → FreshS eI 1 H wv0 (H ++ [[]]) (usersL g i) := fun h => by
    have : usersL g i = [] := by unfold usersL; rw [if_neg h]
    rw [this]
    exact ⟨p0, s0, o0⟩
  simp only [go_sem, ↓reduceIte, Nat.reduceEqDiff, reduceCtorEq, Nat.reduceAdd, Nat.reduceLeDiff, Nat.reduceMul, c46, fillL, hwv, a39, w0]
  refine brT.intro (fun hok => ?_) (fun hok => ?_) <;> simp only [go_sem, ↓reduceIte, Nat.reduceEqDiff, reduceCtorEq, Nat.reduceAdd, Nat.reduceLeDiff, Nat.reduceMul, hok]
  rotate_left
  · exact none (fun h => by rw [hok] at h; exact absurd h.1 (by simp))
  refine brT.intro (fun q1 => ?_) (fun q1 => ?_) <;> simp only [go_sem, ↓reduceIte, Nat.reduceEqDiff, reduceCtorEq, Nat.reduceAdd, Nat.reduceLeDiff, Nat.reduceMul, hok, q1, hg0.len]
  · exact none (fun h => by have := of_decide_eq_true q1; omega)
  refine brT.intro (fun q2 => ?_) (fun q2 => ?_) <;> simp only [go_sem, ↓reduceIte, Nat.reduceEqDiff, reduceCtorEq, Nat.reduceAdd, Nat.reduceLeDiff, Nat.reduceMul, hok, q1, q2]
  · exact none (fun h => by have := of_decide_eq_true q2; omega)
  obtain ⟨a, rfl⟩ : ∃ a : Nat, i = a := nat_of (by have := of_decide_eq_false q1; omega)
  have ha : a < g.length := by have := of_decide_eq_false q2; omega
  have hU : usersL g a = selN (userP g a) 31 := by
    unfold usersL
    rw [if_pos ⟨hok, by omega, by omega⟩]
  rw [hU]
  have hg8 := (groupsOk_in hok).1
  refine callT_to (fun m' h => f80 hg0 hok ha h) rfl w0 fun bv H1 ⟨p1, s1, o1⟩ => ?_
  have hbl : (belL g a).length = g.length := by simp [belL]
  obtain ⟨id3, p3, o3, ho3, hp3, hid3, hia3, hst3⟩ := s1.store (i := a) (by rw [hbl]; exact ha)
  have hid3m : id3 ∈ idsOf bv := by rw [hid3]; simp
  have hid3g := own_ge o1 id3 hid3m
  have hid3g' : H.length < id3 := by simp at hid3g; omega
  have hwid := hw id3 (by omega)
  simp only [go_sem, ↓reduceIte, Nat.reduceEqDiff, reduceCtorEq, Nat.reduceAdd, Nat.reduceLeDiff, Nat.reduceMul, hia3, ho3, hp3, hwid]
  have sb := hst3 true [.bool true] rfl rfl
  have pb : H <+: H1.set id3 (spl o3 p3 [.bool true]) := pre_set (p0.trans p1) (by omega)
  have sw : SlI (H1.set id3 (spl o3 p3 [.bool true])) wv0 [] := (s0.pre p1).other (by rw [i0]; simp; omega)
  have hbb : ∀ (k : Nat) (c : Bool), ((belL g a).set a true)[k]? = some c → (c = true ↔ ((k : Int) = a ∨ Bel g a k)) := fun k c hc => by
    rw [List.getElem?_set] at hc
    split at hc
    · rename_i e
      subst e
      rw [if_pos (by rw [hbl]; exact ha)] at hc
      cases hc
      simp
    · rename_i e
      rw [belL_get hc]
      exact ⟨.inr, fun h => h.resolve_left (fun h => e (by omega))⟩
  generalize hH2 : H1.set id3 (spl o3 p3 [.bool true]) = H2 at sb pb sw
  have hbvi := sb.ids
  refine go_for 31 (fun u s => H <+: s.H ∧ s.ρ 0 = .val v ∧ s.ρ 6 = .val bv ∧ s.ρ 7 = .val (.int .i64 u) ∧ SlB s.H bv ((belL g a).set a true) ∧ ∃ wv, s.ρ 5 = .val wv ∧ SlI s.H wv (selN (userP g a) u) ∧ OwnS H.length wv ∧ ∀ j ∈ idsOf wv, j ∉ idsOf bv)
    (fun s => H <+: s.H ∧ ∃ wv, s.ρ 5 = .val wv ∧ SlI s.H wv (selN (userP g a) 31) ∧ OwnS H.length wv) ?_ ?_ ?_
  · exact ⟨pb, by simp [upd, ini], by simp [upd], by simp [upd], sb, wv0, by simp [upd], sw, o0, fun j hj hm => by rw [i0] at hj; rw [hid3] at hm; simp at hj hm; omega⟩
  · rintro u s hu ⟨kH, k0, k6, k7, kb, wv, k5, ks, ko, kd⟩
    simp only [go_sem, ↓reduceIte, Nat.reduceEqDiff, reduceCtorEq, Nat.reduceAdd, Nat.reduceLeDiff, Nat.reduceMul, k0, k5, k6, k7]
    refine brT.intro (fun c1 => ?_) (fun c1 => ?_) <;> simp only [go_sem, ↓reduceIte, Nat.reduceEqDiff, reduceCtorEq, Nat.reduceAdd, Nat.reduceLeDiff, Nat.reduceMul, k0, k5, k6, k7]
    · have hu31 : u < 31 := by have := of_decide_eq_true c1; omega
      refine go_for g.length (fun k s' => s'.H = s.H ∧ s'.ρ 0 = .val v ∧ s'.ρ 6 = .val bv ∧ s'.ρ 7 = .val (.int .i64 u) ∧ s'.ρ 5 = .val wv ∧ s'.ρ 9 = .val (.int .i64 k) ∧ ∃ c : Bool, s'.ρ 8 = .val (.bool c) ∧ (c = true ↔ ∃ (k' : Nat) (x : Group), k' < k ∧ g[k']? = some x ∧ ((k' : Int) = a ∨ Bel g a k') ∧ (u : Int) ∈ x.1))
        (fun s' => s'.H = s.H ∧ s'.ρ 0 = .val v ∧ s'.ρ 6 = .val bv ∧ s'.ρ 7 = .val (.int .i64 u) ∧ s'.ρ 5 = .val wv ∧ s'.ρ 8 = .val (.bool (userP g a u))) ?_ ?_ ?_
      · exact ⟨rfl, by simp [upd, k0], by simp [upd, k6], by simp [upd, k7], by simp [upd, k5], by simp [upd], false, by simp [upd], by simp⟩
      · rintro k s' hk ⟨jH, j0, j6, j7, j5, j9, c, j8, jc⟩
        have kg := hg.preG kH
        have kw := hw.pre kH
        simp only [go_sem, ↓reduceIte, Nat.reduceEqDiff, reduceCtorEq, Nat.reduceAdd, Nat.reduceLeDiff, Nat.reduceMul, j0, j5, j6, j7, j8, j9, kg.len]
        refine brT.intro (fun e1 => ?_) (fun e1 => ?_) <;> simp only [go_sem, ↓reduceIte, Nat.reduceEqDiff, reduceCtorEq, Nat.reduceAdd, Nat.reduceLeDiff, Nat.reduceMul, j0, j5, j6, j7, j8, j9]
        · have hkl : k < g.length := by have := of_decide_eq_true e1; omega
          obtain ⟨X, hX⟩ : ∃ X, g[k]? = some X := ⟨_, List.getElem?_eq_getElem hkl⟩
          obtain ⟨idX, pX, oX, uX, zX, hoX, huX, _, hrX, hpX, hsuX, hsX, hiaX⟩ := kg.group hX
          cases c with
          | true =>
            simp only [go_sem, ↓reduceIte, Nat.reduceEqDiff, reduceCtorEq, Nat.reduceAdd, Nat.reduceLeDiff, Nat.reduceMul, j0, j5, j6, j7, j8, j9, wrap64 ((k : Int) + 1) (by omega) (by omega)]
            refine ⟨hkl, jH, by simp, true, rfl, ?_⟩
            obtain ⟨k', x, h1, h2⟩ := jc.1 rfl
            simp only [true_iff]
            exact ⟨k', x, by omega, h2⟩
          | false =>
            have jn : ¬ ∃ (k' : Nat) (x : Group), k' < k ∧ g[k']? = some x ∧ ((k' : Int) = a ∨ Bel g a k') ∧ (u : Int) ∈ x.1 := fun h => by have := jc.2 h; cases this
            obtain ⟨c2, hc2⟩ : ∃ c2, ((belL g a).set a true)[k]? = some c2 := ⟨_, List.getElem?_eq_getElem (by rw [List.length_set, hbl]; exact hkl)⟩
            have hcc := hbb k c2 hc2
            obtain ⟨idc, pc, oc, hoc, hrc, hiac⟩ := kb.bool hc2
            cases c2 with
            | false =>
              simp only [go_sem, ↓reduceIte, Nat.reduceEqDiff, reduceCtorEq, Nat.reduceAdd, Nat.reduceLeDiff, Nat.reduceMul, j0, j5, j6, j7, j8, j9, jH, hiac, hoc, hrc, wrap64 ((k : Int) + 1) (by omega) (by omega)]
              refine ⟨hkl, by simp, false, rfl, ?_⟩
              simp only [Bool.false_eq_true, false_iff]
              rintro ⟨k', x, h1, h2, h3, h4⟩
              by_cases hkk : k' < k
              · exact jn ⟨k', x, hkk, h2, h3, h4⟩
              · have : k' = k := by omega
                subst this
                have := hcc.2 h3
                cases this
            | true =>
              have a61 := fun {m draw s d ts Q} => callT_at (m := m) (draw := draw) (s := s) (d := d) (ts := ts) (Q := Q) (f61 (h := (u : Int)) hsuX)
              simp only [go_sem, ↓reduceIte, Nat.reduceEqDiff, reduceCtorEq, Nat.reduceAdd, Nat.reduceLeDiff, Nat.reduceMul, j0, j5, j6, j7, j8, j9, jH, hiac, hoc, hrc, hiaX, hoX, huX, a61, kw, wrap64 ((k : Int) + 1) (by omega) (by omega)]
              refine ⟨hkl, by simp, _, rfl, ?_⟩
              rw [decide_eq_true_iff]
              constructor
              · exact fun h => ⟨k, X, by omega, hX, hcc.1 rfl, h⟩
              · rintro ⟨k', x, h1, h2, h3, h4⟩
                by_cases hkk : k' < k
                · exact absurd ⟨k', x, hkk, h2, h3, h4⟩ jn
                · have : k' = k := by omega
                  subst this
                  rw [hX] at h2
                  cases h2
                  exact h4
        · have : k = g.length := by have := of_decide_eq_false e1; omega
          subst this
          refine ⟨jH, ?_⟩
          have : c = userP g a u := by
            rw [Bool.eq_iff_iff, jc, userP_t]
            constructor
            · rintro ⟨k', x, _, h⟩
              exact ⟨k', x, h⟩
            · rintro ⟨k', x, h2, h⟩
              exact ⟨k', x, (List.getElem?_eq_some_iff.1 h2).1, h2, h⟩
          rw [this]
      · rintro s' ⟨jH, j0, j6, j7, j5, j8⟩
        cases hc : userP g a u with
        | false =>
          rw [hc] at j8
          simp only [go_sem, ↓reduceIte, Nat.reduceEqDiff, reduceCtorEq, Nat.reduceAdd, Nat.reduceLeDiff, Nat.reduceMul, j0, j5, j6, j7, j8, jH, wrap64 ((u : Int) + 1) (by omega) (by omega)]
          exact ⟨hu31, kH, by simp, kb, wv, rfl, by rw [selN_no hc]; exact ks, ko, kd⟩
        | true =>
          rw [hc] at j8
          have hlen := selN_len (userP g a) u
          obtain ⟨v3, H3, d1, d2, d3, d4, d5, d6, d7⟩ := ks.one (m := m) (u : Int) ko kH.length_le hw (by omega)
          simp only [go_sem, ↓reduceIte, Nat.reduceEqDiff, reduceCtorEq, Nat.reduceAdd, Nat.reduceLeDiff, Nat.reduceMul, j0, j5, j6, j7, j8, jH]
          rw [d1]
          rotate_left
          · rfl
          · rfl
          · rfl
          simp only [go_sem, ↓reduceIte, Nat.reduceEqDiff, reduceCtorEq, Nat.reduceAdd, Nat.reduceLeDiff, Nat.reduceMul, j0, j5, j6, j7, j8, wrap64 ((u : Int) + 1) (by omega) (by omega)]
          refine ⟨hu31, d7 H (Nat.le_refl _) kH, by simp, kb.aside (fun j hj hm => kd j hm hj) d4, v3, rfl, by rw [selN_yes hc]; exact d2, d3, fun j hj hm => ?_⟩
          rcases d6 j hj with h | h
          · exact kd j h hm
          · have := kb.ids j hm
            omega
    · have : u = 31 := by have := of_decide_eq_false c1; omega
      subst this
      exact ⟨kH, wv, rfl, ks, ko⟩
  · rintro s ⟨kH, wv, k5, ks, ko⟩
    simp only [go_sem, ↓reduceIte, Nat.reduceEqDiff, reduceCtorEq, Nat.reduceAdd, Nat.reduceLeDiff, Nat.reduceMul, k5]
    exact ⟨kH, ks, ko⟩
end Go.Proofs.Ytdplmjlbkaipiaa.Ev
