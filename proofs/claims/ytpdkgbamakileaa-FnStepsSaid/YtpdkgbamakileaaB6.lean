/- Texts of this proof, laid one behind the other: what each shows stands at its head. -/
import Derived.Test.YtpdkgbamakileaaB3
import Derived.Test.YtpdkgbamakileaaB5
/- Code of the program's functions, as the small machine has it: written by mkcode.py. -/
namespace Go.Proofs.Ytpdkgbamakileaa.Ev
set_option linter.all false
open Go
def c8 : CF := ⟨45, (.seq (.reg false [⟨(some 2), .none, (.boxV (.t 0)), 0, []⟩, ⟨(some 4), .none, (.mov (.c (.bool false))), 1, []⟩]) (.seq (.reg false [⟨(some 5), .none, (.mov (.c (.int .i64 1048576))), 0, []⟩]) (.seq (.reg false [⟨(some 10), .none, (.load 2 true (.t 2)), 0, []⟩, ⟨(some 11), .none, (.mov (.t 5)), 1, []⟩, ⟨(some 12), .none, (.call 35 [(.t 10), (.t 11)]), 2, []⟩, ⟨(some 5), .none, (.mov (.t 12)), 3, []⟩]) (.seq (.seq (.reg false [⟨(some 13), .none, (.mov (.t 5)), 0, []⟩, ⟨(some 14), .none, (.bin .lss (.t 13) (.c (.int .i64 0))), 1, []⟩]) (.cond (.t 14) (.seq (.reg false [⟨(some 4), .none, (.mov (.c (.bool true))), 0, []⟩]) .ret) .skip)) (.seq (.reg false [⟨(some 15), .none, (.mov (.t 1)), 0, []⟩, ⟨(some 16), .none, (.mov (.t 5)), 1, []⟩, ⟨(some 17), .none, (.call 36 [(.t 15), (.t 16)]), 2, []⟩, ⟨(some 5), .none, (.mov (.t 17)), 3, []⟩]) (.seq (.seq (.reg false [⟨(some 18), .none, (.mov (.t 5)), 0, []⟩, ⟨(some 19), .none, (.bin .lss (.t 18) (.c (.int .i64 0))), 1, []⟩]) (.cond (.t 19) (.seq (.reg false [⟨(some 4), .none, (.mov (.c (.bool true))), 0, []⟩]) .ret) .skip)) (.seq (.reg false [⟨(some 20), .none, (.load 2 true (.t 2)), 0, []⟩, ⟨(some 21), .none, (.call 38 [(.t 20)]), 1, []⟩, ⟨(some 22), .none, (.mov (.t 1)), 2, []⟩, ⟨(some 23), .none, (.call 39 [(.t 22)]), 3, []⟩, ⟨(some 24), .none, (.call 37 [(.t 21), (.t 23)]), 4, []⟩, ⟨(some 6), .none, (.mov (.t 24)), 5, []⟩]) (.seq (.reg false [⟨(some 25), .none, (.load 2 true (.t 2)), 0, []⟩, ⟨(some 26), .none, (.call 38 [(.t 25)]), 1, []⟩, ⟨(some 7), .none, (.newV [(.slice .none 0 0), (.slice .none 0 0)]), 2, []⟩, ⟨.none, .none, (.store 2 (.t 7) (.t 26)), 3, []⟩]) (.seq (.reg false [⟨(some 27), .none, (.mov (.t 1)), 0, []⟩, ⟨(some 28), .none, (.call 39 [(.t 27)]), 1, []⟩, ⟨(some 8), .none, (.mov (.t 28)), 2, []⟩]) (.seq (.reg false [⟨(some 29), .none, (.load 2 true (.t 7)), 0, []⟩, ⟨(some 30), .none, (.mov (.t 8)), 1, []⟩, ⟨(some 31), .none, (.call 40 [(.t 29), (.t 30)]), 2, []⟩, ⟨(some 9), .none, (.mov (.t 31)), 3, []⟩]) (.seq (.seq (.reg false [⟨(some 32), .none, (.mov (.t 9)), 0, []⟩, ⟨(some 33), .none, (.mov (.t 6)), 1, []⟩, ⟨(some 34), .none, (.beq true (.t 32) (.t 33)), 2, []⟩]) (.cond (.t 34) (.seq (.reg false [⟨(some 4), .none, (.mov (.c (.bool false))), 0, []⟩]) .ret) .skip)) (.seq (.seq (.reg true [⟨(some 35), .none, (.load 2 true (.t 7)), 0, []⟩, ⟨(some 36), .none, (.load 2 true (.t 2)), 1, []⟩, ⟨(some 37), .none, (.call 38 [(.t 36)]), 2, [1]⟩, ⟨(some 38), .none, (.call 41 [(.t 35), (.t 37)]), 3, [0, 2, 1]⟩, ⟨(some 39), .none, (.un .not (.t 38)), 4, [3, 0, 2, 1]⟩]) (.cond (.t 39) (.seq (.reg false [⟨(some 4), .none, (.mov (.c (.bool false))), 0, []⟩]) .ret) .skip)) (.seq (.seq (.reg false [⟨(some 40), .none, (.mov (.t 8)), 0, []⟩, ⟨(some 41), .none, (.mov (.t 1)), 1, []⟩, ⟨(some 42), .none, (.call 39 [(.t 41)]), 2, []⟩, ⟨(some 43), .none, (.call 42 [(.t 40), (.t 42)]), 3, []⟩, ⟨(some 44), .none, (.un .not (.t 43)), 4, []⟩]) (.cond (.t 44) (.seq (.reg false [⟨(some 4), .none, (.mov (.c (.bool false))), 0, []⟩]) .ret) .skip)) (.seq (.reg false [⟨(some 4), .none, (.mov (.c (.bool true))), 0, []⟩]) .ret)))))))))))))), [(.t 4)]⟩
theorem k8 : EE.fns 8 = some c8 := by kernel_rfl
def c37 : CF := ⟨20, (.seq (.reg false [⟨(some 2), .none, (.boxV (.t 0)), 0, []⟩, ⟨(some 4), .none, (.mov (.c (.bool false))), 1, []⟩]) (.seq (.seq (.reg false [⟨(some 6), .none, (.load 2 true (.t 2)), 0, []⟩, ⟨(some 7), .none, (.call 49 [(.t 6)]), 1, []⟩, ⟨(some 8), .none, (.un .not (.t 7)), 2, []⟩]) (.cond (.t 8) (.seq (.reg false [⟨(some 4), .none, (.mov (.c (.bool false))), 0, []⟩]) .ret) .skip)) (.seq (.seq (.reg false [⟨(some 5), .none, (.mov (.c (.int .i64 0))), 0, []⟩]) (.block 0 (.loop (.seq (.seq (.reg false [⟨(some 9), .none, (.mov (.t 5)), 0, []⟩, ⟨(some 10), .none, (.mov (.t 1)), 1, []⟩, ⟨(some 11), .none, (.lenS (.t 10)), 2, []⟩, ⟨(some 12), .none, (.bin .lss (.t 9) (.t 11)), 3, []⟩]) (.cond (.t 12) .skip (.exit 0))) (.seq (.block 1 (.seq (.reg false [⟨(some 15), .none, (.load 2 true (.t 2)), 0, []⟩, ⟨(some 16), .none, (.mov (.t 1)), 1, []⟩, ⟨(some 17), .none, (.mov (.t 5)), 2, []⟩, ⟨(some 18), .none, (.call 73 [(.t 15), (.t 16), (.t 17)]), 3, []⟩, ⟨(some 19), .none, (.un .not (.t 18)), 4, []⟩]) (.cond (.t 19) (.seq (.reg false [⟨(some 4), .none, (.mov (.c (.bool false))), 0, []⟩]) .ret) .skip))) (.reg false [⟨(some 13), .none, (.mov (.t 5)), 0, []⟩, ⟨(some 14), .none, (.bin .add (.t 13) (.c (.int .i64 1))), 1, []⟩, ⟨(some 5), .none, (.mov (.t 14)), 2, []⟩])))))) (.seq (.reg false [⟨(some 4), .none, (.mov (.c (.bool true))), 0, []⟩]) .ret)))), [(.t 4)]⟩
theorem k37 : EE.fns 37 = some c37 := by kernel_rfl
def c40 : CF := ⟨19, (.seq (.reg false [⟨(some 2), .none, (.boxV (.t 0)), 0, []⟩, ⟨(some 4), .none, (.mov (.c (.bool false))), 1, []⟩]) (.seq (.seq (.reg false [⟨(some 6), .none, (.mov (.t 1)), 0, []⟩, ⟨(some 7), .none, (.lenS (.t 6)), 1, []⟩, ⟨(some 8), .none, (.mov (.c (.int .i64 0))), 2, []⟩]) (.block 0 (.loop (.seq (.reg false [⟨(some 9), .none, (.bin .lss (.t 8) (.t 7)), 0, []⟩]) (.seq (.cond (.t 9) .skip (.exit 0)) (.seq (.block 1 (.seq (.reg false [⟨(some 10), .none, (.mov (.t 8)), 0, []⟩, ⟨(some 5), .none, (.mov (.t 10)), 1, []⟩]) (.seq (.reg false [⟨(some 11), .none, (.load 2 true (.t 2)), 0, []⟩, ⟨(some 12), .none, (.mov (.t 1)), 1, []⟩, ⟨(some 13), .none, (.mov (.t 5)), 2, []⟩, ⟨(some 14), .none, (.call 76 [(.t 11), (.t 12), (.t 13)]), 3, []⟩, ⟨(some 15), .none, (.un .not (.t 14)), 4, []⟩]) (.cond (.t 15) (.seq (.reg false [⟨(some 4), .none, (.mov (.c (.bool false))), 0, []⟩]) .ret) .skip)))) (.reg false [⟨(some 16), .none, (.bin .add (.t 8) (.c (.int .i64 1))), 0, []⟩, ⟨(some 8), .none, (.mov (.t 16)), 1, []⟩]))))))) (.seq (.reg false [⟨(some 17), .none, (.load 2 true (.t 2)), 0, []⟩, ⟨(some 18), .none, (.call 77 [(.t 17)]), 1, []⟩, ⟨(some 4), .none, (.mov (.t 18)), 2, []⟩]) .ret))), [(.t 4)]⟩
theorem k40 : EE.fns 40 = some c40 := by kernel_rfl
def c49 : CF := ⟨73, (.seq (.reg false [⟨(some 1), .none, (.boxV (.t 0)), 0, []⟩, ⟨(some 2), .none, (.mov (.c (.bool false))), 1, []⟩]) (.seq (.seq (.reg false [⟨(some 5), .none, (.fadr 0 (.t 1)), 0, []⟩, ⟨(some 6), .none, (.load 1 false (.t 5)), 1, []⟩, ⟨(some 7), .none, (.lenS (.t 6)), 2, []⟩, ⟨(some 8), .none, (.bin .gtr (.t 7) (.c (.int .i64 60))), 3, []⟩, ⟨(some 9), .none, (.mov (.t 8)), 4, []⟩, ⟨(some 10), (.some (9, false)), (.fadr 1 (.t 1)), 5, []⟩, ⟨(some 11), (.some (9, false)), (.load 1 false (.t 10)), 6, []⟩, ⟨(some 12), (.some (9, false)), (.lenS (.t 11)), 7, []⟩, ⟨(some 13), (.some (9, false)), (.bin .gtr (.t 12) (.c (.int .i64 40))), 8, []⟩, ⟨(some 14), .none, (.pick (.t 9) (.c (.bool true)) (.t 13)), 9, []⟩]) (.cond (.t 14) (.seq (.reg false [⟨(some 2), .none, (.mov (.c (.bool false))), 0, []⟩]) .ret) .skip)) (.seq (.seq (.reg false [⟨(some 3), .none, (.mov (.c (.int .i64 0))), 0, []⟩]) (.block 0 (.loop (.seq (.seq (.reg false [⟨(some 15), .none, (.mov (.t 3)), 0, []⟩, ⟨(some 16), .none, (.fadr 0 (.t 1)), 1, []⟩, ⟨(some 17), .none, (.load 1 false (.t 16)), 2, []⟩, ⟨(some 18), .none, (.lenS (.t 17)), 3, []⟩, ⟨(some 19), .none, (.bin .lss (.t 15) (.t 18)), 4, []⟩]) (.cond (.t 19) .skip (.exit 0))) (.seq (.block 1 (.seq (.reg true [⟨(some 22), .none, (.fadr 0 (.t 1)), 0, []⟩, ⟨(some 23), .none, (.load 1 false (.t 22)), 1, [0]⟩, ⟨(some 24), .none, (.mov (.t 3)), 2, []⟩, ⟨(some 25), .none, (.iadr 1 (.t 23) (.t 24)), 3, [1, 0, 2]⟩, ⟨(some 26), .none, (.load 1 false (.t 25)), 4, [3, 1, 0, 2]⟩, ⟨(some 27), .none, (.call 88 [(.t 26)]), 5, [4, 3, 1, 0, 2]⟩, ⟨(some 28), .none, (.un .not (.t 27)), 6, [5, 4, 3, 1, 0, 2]⟩, ⟨(some 29), .none, (.mov (.t 28)), 7, [6, 5, 4, 3, 1, 0, 2]⟩, ⟨(some 30), (.some (29, false)), (.fadr 0 (.t 1)), 8, [7, 6, 5, 4, 3, 1, 0, 2]⟩, ⟨(some 31), (.some (29, false)), (.load 1 false (.t 30)), 9, [8, 7, 6, 5, 4, 3, 1, 0, 2]⟩, ⟨(some 32), (.some (29, false)), (.mov (.t 3)), 10, [7, 6, 5, 4, 3, 1, 0, 2]⟩, ⟨(some 33), (.some (29, false)), (.slc 1 (.t 31) .none (.some (.t 32))), 11, [9, 8, 7, 6, 5, 4, 3, 1, 0, 2, 10]⟩, ⟨(some 34), (.some (29, false)), (.fadr 0 (.t 1)), 12, [7, 6, 5, 4, 3, 1, 0, 2]⟩, ⟨(some 35), (.some (29, false)), (.load 1 false (.t 34)), 13, [12, 7, 6, 5, 4, 3, 1, 0, 2]⟩, ⟨(some 36), (.some (29, false)), (.mov (.t 3)), 14, [7, 6, 5, 4, 3, 1, 0, 2]⟩, ⟨(some 37), (.some (29, false)), (.iadr 1 (.t 35) (.t 36)), 15, [13, 12, 7, 6, 5, 4, 3, 1, 0, 2, 14]⟩, ⟨(some 38), (.some (29, false)), (.load 1 false (.t 37)), 16, [15, 13, 12, 7, 6, 5, 4, 3, 1, 0, 2, 14]⟩, ⟨(some 39), (.some (29, false)), (.call 89 [(.t 33), (.t 38)]), 17, [11, 9, 8, 7, 6, 5, 4, 3, 1, 0, 2, 10, 16, 15, 13, 12, 14]⟩, ⟨(some 40), .none, (.pick (.t 29) (.c (.bool true)) (.t 39)), 18, [7, 6, 5, 4, 3, 1, 0, 2, 17, 11, 9, 8, 10, 16, 15, 13, 12, 14]⟩]) (.cond (.t 40) (.seq (.reg false [⟨(some 2), .none, (.mov (.c (.bool false))), 0, []⟩]) .ret) .skip))) (.reg false [⟨(some 20), .none, (.mov (.t 3)), 0, []⟩, ⟨(some 21), .none, (.bin .add (.t 20) (.c (.int .i64 1))), 1, []⟩, ⟨(some 3), .none, (.mov (.t 21)), 2, []⟩])))))) (.seq (.seq (.reg false [⟨(some 4), .none, (.mov (.c (.int .i64 0))), 0, []⟩]) (.block 2 (.loop (.seq (.seq (.reg false [⟨(some 41), .none, (.mov (.t 4)), 0, []⟩, ⟨(some 42), .none, (.fadr 1 (.t 1)), 1, []⟩, ⟨(some 43), .none, (.load 1 false (.t 42)), 2, []⟩, ⟨(some 44), .none, (.lenS (.t 43)), 3, []⟩, ⟨(some 45), .none, (.bin .lss (.t 41) (.t 44)), 4, []⟩]) (.cond (.t 45) .skip (.exit 2))) (.seq (.block 3 (.seq (.reg true [⟨(some 48), .none, (.fadr 1 (.t 1)), 0, []⟩, ⟨(some 49), .none, (.load 1 false (.t 48)), 1, [0]⟩, ⟨(some 50), .none, (.mov (.t 4)), 2, []⟩, ⟨(some 51), .none, (.iadr 1 (.t 49) (.t 50)), 3, [1, 0, 2]⟩, ⟨(some 52), .none, (.load 1 false (.t 51)), 4, [3, 1, 0, 2]⟩, ⟨(some 53), .none, (.call 90 [(.t 52), (.c (.int .i64 1)), (.c (.int .i64 1000000))]), 5, [4, 3, 1, 0, 2]⟩, ⟨(some 54), .none, (.un .not (.t 53)), 6, [5, 4, 3, 1, 0, 2]⟩, ⟨(some 55), .none, (.mov (.t 54)), 7, [6, 5, 4, 3, 1, 0, 2]⟩, ⟨(some 56), (.some (55, false)), (.mov (.t 4)), 8, [7, 6, 5, 4, 3, 1, 0, 2]⟩, ⟨(some 57), (.some (55, false)), (.bin .gtr (.t 56) (.c (.int .i64 0))), 9, [8, 7, 6, 5, 4, 3, 1, 0, 2]⟩, ⟨(some 58), (.some (55, false)), (.mov (.t 57)), 10, [9, 8, 7, 6, 5, 4, 3, 1, 0, 2]⟩, ⟨(some 59), (.some (58, true)), (.fadr 1 (.t 1)), 11, [10, 9, 8, 7, 6, 5, 4, 3, 1, 0, 2]⟩, ⟨(some 60), (.some (58, true)), (.load 1 false (.t 59)), 12, [11, 10, 9, 8, 7, 6, 5, 4, 3, 1, 0, 2]⟩, ⟨(some 61), (.some (58, true)), (.mov (.t 4)), 13, [10, 9, 8, 7, 6, 5, 4, 3, 1, 0, 2]⟩, ⟨(some 62), (.some (58, true)), (.bin .sub (.t 61) (.c (.int .i64 1))), 14, [13, 10, 9, 8, 7, 6, 5, 4, 3, 1, 0, 2]⟩, ⟨(some 63), (.some (58, true)), (.iadr 1 (.t 60) (.t 62)), 15, [12, 11, 10, 9, 8, 7, 6, 5, 4, 3, 1, 0, 2, 14, 13]⟩, ⟨(some 64), (.some (58, true)), (.load 1 false (.t 63)), 16, [15, 12, 11, 10, 9, 8, 7, 6, 5, 4, 3, 1, 0, 2, 14, 13]⟩, ⟨(some 65), (.some (58, true)), (.fadr 1 (.t 1)), 17, [10, 9, 8, 7, 6, 5, 4, 3, 1, 0, 2]⟩, ⟨(some 66), (.some (58, true)), (.load 1 false (.t 65)), 18, [17, 10, 9, 8, 7, 6, 5, 4, 3, 1, 0, 2]⟩, ⟨(some 67), (.some (58, true)), (.mov (.t 4)), 19, [10, 9, 8, 7, 6, 5, 4, 3, 1, 0, 2]⟩, ⟨(some 68), (.some (58, true)), (.iadr 1 (.t 66) (.t 67)), 20, [18, 17, 10, 9, 8, 7, 6, 5, 4, 3, 1, 0, 2, 19]⟩, ⟨(some 69), (.some (58, true)), (.load 1 false (.t 68)), 21, [20, 18, 17, 10, 9, 8, 7, 6, 5, 4, 3, 1, 0, 2, 19]⟩, ⟨(some 70), (.some (58, true)), (.bin .geq (.t 64) (.t 69)), 22, [16, 15, 12, 11, 10, 9, 8, 7, 6, 5, 4, 3, 1, 0, 2, 14, 13, 21, 20, 18, 17, 19]⟩, ⟨(some 71), (.some (55, false)), (.pick (.t 58) (.t 70) (.c (.bool false))), 23, [10, 9, 8, 7, 6, 5, 4, 3, 1, 0, 2, 22, 16, 15, 12, 11, 14, 13, 21, 20, 18, 17, 19]⟩, ⟨(some 72), .none, (.pick (.t 55) (.c (.bool true)) (.t 71)), 24, [7, 6, 5, 4, 3, 1, 0, 2, 23, 10, 9, 8, 22, 16, 15, 12, 11, 14, 13, 21, 20, 18, 17, 19]⟩]) (.cond (.t 72) (.seq (.reg false [⟨(some 2), .none, (.mov (.c (.bool false))), 0, []⟩]) .ret) .skip))) (.reg false [⟨(some 46), .none, (.mov (.t 4)), 0, []⟩, ⟨(some 47), .none, (.bin .add (.t 46) (.c (.int .i64 1))), 1, []⟩, ⟨(some 4), .none, (.mov (.t 47)), 2, []⟩])))))) (.seq (.reg false [⟨(some 2), .none, (.mov (.c (.bool true))), 0, []⟩]) .ret))))), [(.t 2)]⟩
theorem k49 : EE.fns 49 = some c49 := by kernel_rfl
def c73 : CF := ⟨111, (.seq (.reg false [⟨(some 3), .none, (.boxV (.t 0)), 0, []⟩, ⟨(some 6), .none, (.mov (.c (.bool false))), 1, []⟩]) (.seq (.reg false [⟨(some 16), .none, (.mov (.t 1)), 0, []⟩, ⟨(some 17), .none, (.mov (.t 2)), 1, []⟩, ⟨(some 18), .none, (.iadr 3 (.t 16) (.t 17)), 2, []⟩, ⟨(some 19), .none, (.load 3 true (.t 18)), 3, []⟩, ⟨(some 7), .none, (.newV [(.string ⟨#[]⟩), (.int .i64 0), (.int .i64 0)]), 4, []⟩, ⟨.none, .none, (.store 3 (.t 7) (.t 19)), 5, []⟩]) (.seq (.seq (.reg false [⟨(some 20), .none, (.fadr 1 (.t 7)), 0, []⟩, ⟨(some 21), .none, (.load 1 false (.t 20)), 1, []⟩, ⟨(some 22), .none, (.bin .eql (.t 21) (.c (.int .i64 (-1)))), 2, []⟩]) (.cond (.t 22) (.seq (.reg false [⟨(some 23), .none, (.fadr 2 (.t 7)), 0, []⟩, ⟨(some 24), .none, (.load 1 false (.t 23)), 1, []⟩, ⟨(some 25), .none, (.bin .eql (.t 24) (.c (.int .i64 (-1)))), 2, []⟩, ⟨(some 26), .none, (.mov (.t 25)), 3, []⟩, ⟨(some 27), (.some (26, true)), (.fadr 0 (.t 3)), 4, []⟩, ⟨(some 28), (.some (26, true)), (.load 1 false (.t 27)), 5, []⟩, ⟨(some 29), (.some (26, true)), (.fadr 0 (.t 7)), 6, []⟩, ⟨(some 30), (.some (26, true)), (.load 1 false (.t 29)), 7, []⟩, ⟨(some 31), (.some (26, true)), (.call 89 [(.t 28), (.t 30)]), 8, []⟩, ⟨(some 32), .none, (.pick (.t 26) (.t 31) (.c (.bool false))), 9, []⟩, ⟨(some 6), .none, (.mov (.t 32)), 10, []⟩]) .ret) .skip)) (.seq (.seq (.reg false [⟨(some 33), .none, (.fadr 1 (.t 7)), 0, []⟩, ⟨(some 34), .none, (.load 1 false (.t 33)), 1, []⟩, ⟨(some 35), .none, (.bin .lss (.t 34) (.c (.int .i64 0))), 2, []⟩, ⟨(some 36), .none, (.mov (.t 35)), 3, []⟩, ⟨(some 37), (.some (36, false)), (.fadr 1 (.t 7)), 4, []⟩, ⟨(some 38), (.some (36, false)), (.load 1 false (.t 37)), 5, []⟩, ⟨(some 39), (.some (36, false)), (.mov (.t 2)), 6, []⟩, ⟨(some 40), (.some (36, false)), (.bin .geq (.t 38) (.t 39)), 7, []⟩, ⟨(some 41), .none, (.pick (.t 36) (.c (.bool true)) (.t 40)), 8, []⟩]) (.cond (.t 41) (.seq (.reg false [⟨(some 6), .none, (.mov (.c (.bool false))), 0, []⟩]) .ret) .skip)) (.seq (.reg false [⟨(some 42), .none, (.mov (.t 1)), 0, []⟩, ⟨(some 43), .none, (.fadr 1 (.t 7)), 1, []⟩, ⟨(some 44), .none, (.load 1 false (.t 43)), 2, []⟩, ⟨(some 45), .none, (.iadr 3 (.t 42) (.t 44)), 3, []⟩, ⟨(some 46), .none, (.fadr 0 (.t 45)), 4, []⟩, ⟨(some 47), .none, (.load 1 false (.t 46)), 5, []⟩, ⟨(some 8), .none, (.mov (.t 47)), 6, []⟩]) (.seq (.seq (.reg false [⟨(some 48), .none, (.fadr 2 (.t 7)), 0, []⟩, ⟨(some 49), .none, (.load 1 false (.t 48)), 1, []⟩, ⟨(some 50), .none, (.bin .eql (.t 49) (.c (.int .i64 (-1)))), 2, []⟩]) (.cond (.t 50) (.seq (.reg false [⟨(some 52), .none, (.mov (.t 8)), 0, []⟩, ⟨(some 53), .none, (.call 93 [(.t 52)]), 1, []⟩, ⟨(some 51), .none, (.mov (.t 53)), 2, []⟩, ⟨(some 54), .none, (.ext (.t 51) 0), 3, []⟩, ⟨(some 55), .none, (.ext (.t 51) 1), 4, []⟩, ⟨(some 9), .none, (.mov (.t 54)), 5, []⟩, ⟨(some 10), .none, (.mov (.t 55)), 6, []⟩]) (.seq (.reg false [⟨(some 56), .none, (.mov (.t 10)), 0, []⟩, ⟨(some 57), .none, (.mov (.t 56)), 1, []⟩, ⟨(some 58), (.some (57, true)), (.mov (.t 9)), 2, []⟩, ⟨(some 59), (.some (57, true)), (.fadr 0 (.t 7)), 3, []⟩, ⟨(some 60), (.some (57, true)), (.load 1 false (.t 59)), 4, []⟩, ⟨(some 61), (.some (57, true)), (.call 89 [(.t 58), (.t 60)]), 5, []⟩, ⟨(some 62), .none, (.pick (.t 57) (.t 61) (.c (.bool false))), 6, []⟩, ⟨(some 6), .none, (.mov (.t 62)), 7, []⟩]) .ret)) .skip)) (.seq (.reg false [⟨(some 63), .none, (.mov (.t 8)), 0, []⟩, ⟨(some 64), .none, (.call 108 [(.t 63)]), 1, []⟩, ⟨(some 11), .none, (.mov (.t 64)), 2, []⟩]) (.seq (.reg false [⟨(some 66), .none, (.mov (.t 8)), 0, []⟩, ⟨(some 67), .none, (.mov (.t 11)), 1, []⟩, ⟨(some 68), .none, (.call 100 [(.t 66), (.t 67)]), 2, []⟩, ⟨(some 65), .none, (.mov (.t 68)), 3, []⟩, ⟨(some 69), .none, (.ext (.t 65) 0), 4, []⟩, ⟨(some 70), .none, (.ext (.t 65) 1), 5, []⟩, ⟨(some 12), .none, (.mov (.t 69)), 6, []⟩, ⟨(some 13), .none, (.mov (.t 70)), 7, []⟩]) (.seq (.seq (.reg false [⟨(some 71), .none, (.mov (.t 13)), 0, []⟩, ⟨(some 72), .none, (.un .not (.t 71)), 1, []⟩, ⟨(some 73), .none, (.mov (.t 72)), 2, []⟩, ⟨(some 74), (.some (73, false)), (.mov (.t 12)), 3, []⟩, ⟨(some 75), (.some (73, false)), (.fadr 0 (.t 7)), 4, []⟩, ⟨(some 76), (.some (73, false)), (.load 1 false (.t 75)), 5, []⟩, ⟨(some 77), (.some (73, false)), (.bin .neq (.t 74) (.t 76)), 6, []⟩, ⟨(some 78), .none, (.pick (.t 73) (.c (.bool true)) (.t 77)), 7, []⟩]) (.cond (.t 78) (.seq (.reg false [⟨(some 6), .none, (.mov (.c (.bool false))), 0, []⟩]) .ret) .skip)) (.seq (.seq (.reg false [⟨(some 79), .none, (.fadr 2 (.t 7)), 0, []⟩, ⟨(some 80), .none, (.load 1 false (.t 79)), 1, []⟩, ⟨(some 81), .none, (.bin .eql (.t 80) (.c (.int .i64 (-2)))), 2, []⟩]) (.cond (.t 81) (.seq (.reg false [⟨(some 82), .none, (.fadr 1 (.t 3)), 0, []⟩, ⟨(some 83), .none, (.load 1 false (.t 82)), 1, []⟩, ⟨(some 84), .none, (.mov (.t 11)), 2, []⟩, ⟨(some 85), .none, (.call 109 [(.t 83), (.t 84)]), 3, []⟩, ⟨(some 6), .none, (.mov (.t 85)), 4, []⟩]) .ret) .skip)) (.seq (.seq (.reg false [⟨(some 86), .none, (.fadr 2 (.t 7)), 0, []⟩, ⟨(some 87), .none, (.load 1 false (.t 86)), 1, []⟩, ⟨(some 88), .none, (.bin .lss (.t 87) (.c (.int .i64 0))), 2, []⟩, ⟨(some 89), .none, (.mov (.t 88)), 3, []⟩, ⟨(some 90), (.some (89, false)), (.fadr 2 (.t 7)), 4, []⟩, ⟨(some 91), (.some (89, false)), (.load 1 false (.t 90)), 5, []⟩, ⟨(some 92), (.some (89, false)), (.mov (.t 2)), 6, []⟩, ⟨(some 93), (.some (89, false)), (.bin .geq (.t 91) (.t 92)), 7, []⟩, ⟨(some 94), .none, (.pick (.t 89) (.c (.bool true)) (.t 93)), 8, []⟩]) (.cond (.t 94) (.seq (.reg false [⟨(some 6), .none, (.mov (.c (.bool false))), 0, []⟩]) .ret) .skip)) (.seq (.reg false [⟨(some 96), .none, (.mov (.t 1)), 0, []⟩, ⟨(some 97), .none, (.fadr 2 (.t 7)), 1, []⟩, ⟨(some 98), .none, (.load 1 false (.t 97)), 2, []⟩, ⟨(some 99), .none, (.iadr 3 (.t 96) (.t 98)), 3, []⟩, ⟨(some 100), .none, (.fadr 0 (.t 99)), 4, []⟩, ⟨(some 101), .none, (.load 1 false (.t 100)), 5, []⟩, ⟨(some 102), .none, (.call 110 [(.t 101)]), 6, []⟩, ⟨(some 95), .none, (.mov (.t 102)), 7, []⟩, ⟨(some 103), .none, (.ext (.t 95) 0), 8, []⟩, ⟨(some 104), .none, (.ext (.t 95) 1), 9, []⟩, ⟨(some 14), .none, (.mov (.t 103)), 10, []⟩, ⟨(some 15), .none, (.mov (.t 104)), 11, []⟩]) (.seq (.reg false [⟨(some 105), .none, (.mov (.t 15)), 0, []⟩, ⟨(some 106), .none, (.mov (.t 105)), 1, []⟩, ⟨(some 107), (.some (106, true)), (.mov (.t 14)), 2, []⟩, ⟨(some 108), (.some (106, true)), (.mov (.t 11)), 3, []⟩, ⟨(some 109), (.some (106, true)), (.bin .eql (.t 107) (.t 108)), 4, []⟩, ⟨(some 110), .none, (.pick (.t 106) (.t 109) (.c (.bool false))), 5, []⟩, ⟨(some 6), .none, (.mov (.t 110)), 6, []⟩]) .ret))))))))))))), [(.t 6)]⟩
theorem k73 : EE.fns 73 = some c73 := by kernel_rfl
def c76 : CF := ⟨95, (.seq (.reg false [⟨(some 3), .none, (.boxV (.t 0)), 0, []⟩, ⟨(some 6), .none, (.mov (.c (.bool false))), 1, []⟩]) (.seq (.reg false [⟨(some 14), .none, (.mov (.t 1)), 0, []⟩, ⟨(some 15), .none, (.mov (.t 2)), 1, []⟩, ⟨(some 16), .none, (.iadr 3 (.t 14) (.t 15)), 2, []⟩, ⟨(some 17), .none, (.load 3 true (.t 16)), 3, []⟩, ⟨(some 7), .none, (.newV [(.string ⟨#[]⟩), (.int .i64 0), (.int .i64 0)]), 4, []⟩, ⟨.none, .none, (.store 3 (.t 7) (.t 17)), 5, []⟩]) (.seq (.seq (.reg false [⟨(some 18), .none, (.fadr 1 (.t 7)), 0, []⟩, ⟨(some 19), .none, (.load 1 false (.t 18)), 1, []⟩, ⟨(some 20), .none, (.bin .eql (.t 19) (.c (.int .i64 (-1)))), 2, []⟩]) (.cond (.t 20) (.seq (.reg false [⟨(some 21), .none, (.fadr 2 (.t 7)), 0, []⟩, ⟨(some 22), .none, (.load 1 false (.t 21)), 1, []⟩, ⟨(some 23), .none, (.bin .eql (.t 22) (.c (.int .i64 (-1)))), 2, []⟩, ⟨(some 24), .none, (.mov (.t 23)), 3, []⟩, ⟨(some 25), (.some (24, true)), (.fadr 0 (.t 3)), 4, []⟩, ⟨(some 26), (.some (24, true)), (.load 1 false (.t 25)), 5, []⟩, ⟨(some 27), (.some (24, true)), (.fadr 0 (.t 7)), 6, []⟩, ⟨(some 28), (.some (24, true)), (.load 1 false (.t 27)), 7, []⟩, ⟨(some 29), (.some (24, true)), (.call 111 [(.t 26), (.t 28)]), 8, []⟩, ⟨(some 30), .none, (.pick (.t 24) (.t 29) (.c (.bool false))), 9, []⟩, ⟨(some 6), .none, (.mov (.t 30)), 10, []⟩]) .ret) .skip)) (.seq (.seq (.reg false [⟨(some 31), .none, (.fadr 1 (.t 7)), 0, []⟩, ⟨(some 32), .none, (.load 1 false (.t 31)), 1, []⟩, ⟨(some 33), .none, (.mov (.t 2)), 2, []⟩, ⟨(some 34), .none, (.bin .sub (.t 33) (.c (.int .i64 1))), 3, []⟩, ⟨(some 35), .none, (.call 112 [(.t 32), (.c (.int .i64 0)), (.t 34)]), 4, []⟩, ⟨(some 36), .none, (.un .not (.t 35)), 5, []⟩]) (.cond (.t 36) (.seq (.reg false [⟨(some 6), .none, (.mov (.c (.bool false))), 0, []⟩]) .ret) .skip)) (.seq (.reg false [⟨(some 37), .none, (.mov (.t 1)), 0, []⟩, ⟨(some 38), .none, (.fadr 1 (.t 7)), 1, []⟩, ⟨(some 39), .none, (.load 1 false (.t 38)), 2, []⟩, ⟨(some 40), .none, (.iadr 3 (.t 37) (.t 39)), 3, []⟩, ⟨(some 41), .none, (.fadr 0 (.t 40)), 4, []⟩, ⟨(some 42), .none, (.load 1 false (.t 41)), 5, []⟩, ⟨(some 8), .none, (.mov (.t 42)), 6, []⟩]) (.seq (.seq (.reg false [⟨(some 44), .none, (.mov (.t 8)), 0, []⟩, ⟨(some 45), .none, (.call 81 [(.t 44)]), 1, []⟩, ⟨(some 43), .none, (.mov (.t 45)), 2, []⟩, ⟨(some 46), .none, (.ext (.t 43) 0), 3, []⟩, ⟨(some 47), .none, (.ext (.t 43) 1), 4, []⟩, ⟨(some 9), .none, (.mov (.t 46)), 5, []⟩, ⟨(some 10), .none, (.mov (.t 47)), 6, []⟩]) (.seq (.reg false [⟨(some 48), .none, (.mov (.t 10)), 0, []⟩]) (.cond (.t 48) (.seq (.reg false [⟨(some 49), .none, (.fadr 2 (.t 7)), 0, []⟩, ⟨(some 50), .none, (.load 1 false (.t 49)), 1, []⟩, ⟨(some 51), .none, (.bin .eql (.t 50) (.c (.int .i64 (-1)))), 2, []⟩, ⟨(some 52), .none, (.mov (.t 51)), 3, []⟩, ⟨(some 53), (.some (52, true)), (.mov (.t 9)), 4, []⟩, ⟨(some 54), (.some (52, true)), (.fadr 0 (.t 7)), 5, []⟩, ⟨(some 55), (.some (52, true)), (.load 1 false (.t 54)), 6, []⟩, ⟨(some 56), (.some (52, true)), (.call 111 [(.t 53), (.t 55)]), 7, []⟩, ⟨(some 57), .none, (.pick (.t 52) (.t 56) (.c (.bool false))), 8, []⟩, ⟨(some 6), .none, (.mov (.t 57)), 9, []⟩]) .ret) .skip))) (.seq (.reg false [⟨(some 59), .none, (.mov (.t 8)), 0, []⟩, ⟨(some 60), .none, (.call 83 [(.t 59)]), 1, []⟩, ⟨(some 58), .none, (.mov (.t 60)), 2, []⟩, ⟨(some 61), .none, (.ext (.t 58) 0), 3, []⟩, ⟨(some 62), .none, (.ext (.t 58) 1), 4, []⟩, ⟨(some 63), .none, (.ext (.t 58) 2), 5, []⟩, ⟨(some 11), .none, (.mov (.t 61)), 6, []⟩, ⟨(some 12), .none, (.mov (.t 62)), 7, []⟩, ⟨(some 13), .none, (.mov (.t 63)), 8, []⟩]) (.seq (.seq (.reg false [⟨(some 64), .none, (.mov (.t 13)), 0, []⟩, ⟨(some 65), .none, (.un .not (.t 64)), 1, []⟩, ⟨(some 66), .none, (.mov (.t 65)), 2, []⟩, ⟨(some 67), (.some (66, false)), (.mov (.t 12)), 3, []⟩, ⟨(some 68), (.some (66, false)), (.fadr 0 (.t 7)), 4, []⟩, ⟨(some 69), (.some (66, false)), (.load 1 false (.t 68)), 5, []⟩, ⟨(some 70), (.some (66, false)), (.bin .neq (.t 67) (.t 69)), 6, []⟩, ⟨(some 71), .none, (.pick (.t 66) (.c (.bool true)) (.t 70)), 7, []⟩]) (.cond (.t 71) (.seq (.reg false [⟨(some 6), .none, (.mov (.c (.bool false))), 0, []⟩]) .ret) .skip)) (.seq (.seq (.reg false [⟨(some 72), .none, (.fadr 2 (.t 7)), 0, []⟩, ⟨(some 73), .none, (.load 1 false (.t 72)), 1, []⟩, ⟨(some 74), .none, (.bin .eql (.t 73) (.c (.int .i64 (-2)))), 2, []⟩]) (.cond (.t 74) (.seq (.reg false [⟨(some 75), .none, (.fadr 1 (.t 3)), 0, []⟩, ⟨(some 76), .none, (.load 1 false (.t 75)), 1, []⟩, ⟨(some 77), .none, (.mov (.t 11)), 2, []⟩, ⟨(some 78), .none, (.call 113 [(.t 76), (.t 77)]), 3, []⟩, ⟨(some 6), .none, (.mov (.t 78)), 4, []⟩]) .ret) .skip)) (.seq (.reg true [⟨(some 79), .none, (.fadr 2 (.t 7)), 0, []⟩, ⟨(some 80), .none, (.load 1 false (.t 79)), 1, [0]⟩, ⟨(some 81), .none, (.mov (.t 2)), 2, []⟩, ⟨(some 82), .none, (.bin .sub (.t 81) (.c (.int .i64 1))), 3, [2]⟩, ⟨(some 83), .none, (.call 112 [(.t 80), (.c (.int .i64 0)), (.t 82)]), 4, [1, 0, 3, 2]⟩, ⟨(some 84), .none, (.mov (.t 83)), 5, [4, 1, 0, 3, 2]⟩, ⟨(some 85), (.some (84, true)), (.mov (.t 1)), 6, [5, 4, 1, 0, 3, 2]⟩, ⟨(some 86), (.some (84, true)), (.fadr 2 (.t 7)), 7, [5, 4, 1, 0, 3, 2]⟩, ⟨(some 87), (.some (84, true)), (.load 1 false (.t 86)), 8, [7, 5, 4, 1, 0, 3, 2]⟩, ⟨(some 88), (.some (84, true)), (.iadr 3 (.t 85) (.t 87)), 9, [6, 5, 4, 1, 0, 3, 2, 8, 7]⟩, ⟨(some 89), (.some (84, true)), (.fadr 0 (.t 88)), 10, [9, 6, 5, 4, 1, 0, 3, 2, 8, 7]⟩, ⟨(some 90), (.some (84, true)), (.load 1 false (.t 89)), 11, [10, 9, 6, 5, 4, 1, 0, 3, 2, 8, 7]⟩, ⟨(some 91), (.some (84, true)), (.mov (.t 11)), 12, [5, 4, 1, 0, 3, 2]⟩, ⟨(some 92), (.some (84, true)), (.call 114 [(.t 91)]), 13, [12, 5, 4, 1, 0, 3, 2]⟩, ⟨(some 93), (.some (84, true)), (.bin .eql (.t 90) (.t 92)), 14, [11, 10, 9, 6, 5, 4, 1, 0, 3, 2, 8, 7, 13, 12]⟩, ⟨(some 94), .none, (.pick (.t 84) (.t 93) (.c (.bool false))), 15, [5, 4, 1, 0, 3, 2, 14, 11, 10, 9, 6, 8, 7, 13, 12]⟩, ⟨(some 6), .none, (.mov (.t 94)), 16, [15, 5, 4, 1, 0, 3, 2, 14, 11, 10, 9, 6, 8, 7, 13, 12]⟩]) .ret)))))))))), [(.t 6)]⟩
theorem k76 : EE.fns 76 = some c76 := by kernel_rfl
def c77 : CF := ⟨53, (.seq (.reg false [⟨(some 1), .none, (.boxV (.t 0)), 0, []⟩, ⟨(some 2), .none, (.mov (.c (.bool false))), 1, []⟩]) (.seq (.seq (.reg false [⟨(some 7), .none, (.fadr 0 (.t 1)), 0, []⟩, ⟨(some 8), .none, (.load 1 false (.t 7)), 1, []⟩, ⟨(some 9), .none, (.lenS (.t 8)), 2, []⟩, ⟨(some 10), .none, (.mov (.c (.int .i64 0))), 3, []⟩]) (.block 0 (.loop (.seq (.reg false [⟨(some 11), .none, (.bin .lss (.t 10) (.t 9)), 0, []⟩]) (.seq (.cond (.t 11) .skip (.exit 0)) (.seq (.block 1 (.seq (.reg false [⟨(some 12), .none, (.mov (.t 10)), 0, []⟩, ⟨(some 13), .none, (.iadr 1 (.t 8) (.t 10)), 1, []⟩, ⟨(some 14), .none, (.load 1 false (.t 13)), 2, []⟩, ⟨(some 3), .none, (.mov (.t 12)), 3, []⟩, ⟨(some 4), .none, (.mov (.t 14)), 4, []⟩]) (.seq (.reg false [⟨(some 15), .none, (.mov (.t 4)), 0, []⟩, ⟨(some 16), .none, (.call 96 [(.t 15)]), 1, []⟩, ⟨(some 17), .none, (.un .not (.t 16)), 2, []⟩, ⟨(some 18), .none, (.mov (.t 17)), 3, []⟩, ⟨(some 19), (.some (18, false)), (.fadr 0 (.t 1)), 4, []⟩, ⟨(some 20), (.some (18, false)), (.load 1 false (.t 19)), 5, []⟩, ⟨(some 21), (.some (18, false)), (.mov (.t 3)), 6, []⟩, ⟨(some 22), (.some (18, false)), (.slc 1 (.t 20) .none (.some (.t 21))), 7, []⟩, ⟨(some 23), (.some (18, false)), (.mov (.t 4)), 8, []⟩, ⟨(some 24), (.some (18, false)), (.call 111 [(.t 22), (.t 23)]), 9, []⟩, ⟨(some 25), .none, (.pick (.t 18) (.c (.bool true)) (.t 24)), 10, []⟩]) (.cond (.t 25) (.seq (.reg false [⟨(some 2), .none, (.mov (.c (.bool false))), 0, []⟩]) .ret) .skip)))) (.reg false [⟨(some 26), .none, (.bin .add (.t 10) (.c (.int .i64 1))), 0, []⟩, ⟨(some 10), .none, (.mov (.t 26)), 1, []⟩]))))))) (.seq (.seq (.reg false [⟨(some 27), .none, (.fadr 1 (.t 1)), 0, []⟩, ⟨(some 28), .none, (.load 1 false (.t 27)), 1, []⟩, ⟨(some 29), .none, (.lenS (.t 28)), 2, []⟩, ⟨(some 30), .none, (.mov (.c (.int .i64 0))), 3, []⟩]) (.block 2 (.loop (.seq (.reg false [⟨(some 31), .none, (.bin .lss (.t 30) (.t 29)), 0, []⟩]) (.seq (.cond (.t 31) .skip (.exit 2)) (.seq (.block 3 (.seq (.reg false [⟨(some 32), .none, (.iadr 1 (.t 28) (.t 30)), 0, []⟩, ⟨(some 33), .none, (.load 1 false (.t 32)), 1, []⟩, ⟨(some 6), .none, (.mov (.t 33)), 2, []⟩]) (.seq (.reg false [⟨(some 34), .none, (.mov (.t 6)), 0, []⟩, ⟨(some 35), .none, (.call 97 [(.t 34)]), 1, []⟩, ⟨(some 36), .none, (.un .not (.t 35)), 2, []⟩]) (.cond (.t 36) (.seq (.reg false [⟨(some 2), .none, (.mov (.c (.bool false))), 0, []⟩]) .ret) .skip)))) (.reg false [⟨(some 37), .none, (.bin .add (.t 30) (.c (.int .i64 1))), 0, []⟩, ⟨(some 30), .none, (.mov (.t 37)), 1, []⟩]))))))) (.seq (.reg false [⟨(some 38), .none, (.fadr 0 (.t 1)), 0, []⟩, ⟨(some 39), .none, (.load 1 false (.t 38)), 1, []⟩, ⟨(some 40), .none, (.lenS (.t 39)), 2, []⟩, ⟨(some 41), .none, (.bin .leq (.t 40) (.c (.int .i64 60))), 3, []⟩, ⟨(some 42), .none, (.mov (.t 41)), 4, []⟩, ⟨(some 43), (.some (42, true)), (.fadr 1 (.t 1)), 5, []⟩, ⟨(some 44), (.some (42, true)), (.load 1 false (.t 43)), 6, []⟩, ⟨(some 45), (.some (42, true)), (.lenS (.t 44)), 7, []⟩, ⟨(some 46), (.some (42, true)), (.bin .leq (.t 45) (.c (.int .i64 40))), 8, []⟩, ⟨(some 47), .none, (.pick (.t 42) (.t 46) (.c (.bool false))), 9, []⟩, ⟨(some 48), .none, (.mov (.t 47)), 10, []⟩, ⟨(some 49), (.some (48, true)), (.fadr 1 (.t 1)), 11, []⟩, ⟨(some 50), (.some (48, true)), (.load 1 false (.t 49)), 12, []⟩, ⟨(some 51), (.some (48, true)), (.call 115 [(.t 50)]), 13, []⟩, ⟨(some 52), .none, (.pick (.t 48) (.t 51) (.c (.bool false))), 14, []⟩, ⟨(some 2), .none, (.mov (.t 52)), 15, []⟩]) .ret)))), [(.t 2)]⟩
theorem k77 : EE.fns 77 = some c77 := by kernel_rfl
def c82 : CF := ⟨8, (.seq (.reg false [⟨(some 3), .none, (.boxO (.t 1)), 0, []⟩, ⟨(some 4), .none, (.mov (.c (.int .i64 0))), 1, []⟩]) (.seq (.reg false [⟨(some 5), .none, (.mov (.t 0)), 0, []⟩, ⟨(some 6), .none, (.fn 122 [(.t 3)]), 1, []⟩, ⟨(some 7), .none, (.call 121 [(.t 5), (.t 6)]), 2, []⟩, ⟨(some 4), .none, (.mov (.t 7)), 3, []⟩]) .ret)), [(.t 4)]⟩
theorem k82 : EE.fns 82 = some c82 := by kernel_rfl
def c84 : CF := ⟨15, (.seq (.reg false [⟨(some 3), .none, (.boxV (.t 0)), 0, []⟩, ⟨(some 6), .none, (.mov (.c (.int .i64 0))), 1, []⟩]) (.seq (.seq (.reg false [⟨(some 7), .none, (.fadr 1 (.t 3)), 0, []⟩, ⟨(some 8), .none, (.load 1 false (.t 7)), 1, []⟩, ⟨(some 9), .none, (.mov (.t 2)), 2, []⟩, ⟨(some 10), .none, (.call 113 [(.t 8), (.t 9)]), 3, []⟩]) (.cond (.t 10) (.seq (.reg false [⟨(some 6), .none, (.mov (.c (.int .i64 (-2)))), 0, []⟩]) .ret) .skip)) (.seq (.reg false [⟨(some 11), .none, (.mov (.t 1)), 0, []⟩, ⟨(some 12), .none, (.mov (.t 2)), 1, []⟩, ⟨(some 13), .none, (.call 114 [(.t 12)]), 2, []⟩, ⟨(some 14), .none, (.call 82 [(.t 11), (.t 13)]), 3, []⟩, ⟨(some 6), .none, (.mov (.t 14)), 4, []⟩]) .ret))), [(.t 6)]⟩
theorem k84 : EE.fns 84 = some c84 := by kernel_rfl
def c89 : CF := ⟨18, (.seq (.reg false [⟨(some 4), .none, (.mov (.c (.bool false))), 0, []⟩]) (.seq (.seq (.reg false [⟨(some 5), .none, (.mov (.c (.int .i64 0))), 0, []⟩]) (.block 0 (.loop (.seq (.seq (.reg false [⟨(some 6), .none, (.mov (.t 5)), 0, []⟩, ⟨(some 7), .none, (.mov (.t 0)), 1, []⟩, ⟨(some 8), .none, (.lenS (.t 7)), 2, []⟩, ⟨(some 9), .none, (.bin .lss (.t 6) (.t 8)), 3, []⟩]) (.cond (.t 9) .skip (.exit 0))) (.seq (.block 1 (.seq (.reg false [⟨(some 12), .none, (.mov (.t 0)), 0, []⟩, ⟨(some 13), .none, (.mov (.t 5)), 1, []⟩, ⟨(some 14), .none, (.iadr 1 (.t 12) (.t 13)), 2, []⟩, ⟨(some 15), .none, (.load 1 false (.t 14)), 3, []⟩, ⟨(some 16), .none, (.mov (.t 1)), 4, []⟩, ⟨(some 17), .none, (.bin .eql (.t 15) (.t 16)), 5, []⟩]) (.cond (.t 17) (.seq (.reg false [⟨(some 4), .none, (.mov (.c (.bool true))), 0, []⟩]) .ret) .skip))) (.reg false [⟨(some 10), .none, (.mov (.t 5)), 0, []⟩, ⟨(some 11), .none, (.bin .add (.t 10) (.c (.int .i64 1))), 1, []⟩, ⟨(some 5), .none, (.mov (.t 11)), 2, []⟩])))))) (.seq (.reg false [⟨(some 4), .none, (.mov (.c (.bool false))), 0, []⟩]) .ret))), [(.t 4)]⟩
theorem k89 : EE.fns 89 = some c89 := by kernel_rfl
def c108 : CF := ⟨20, (.seq (.reg false [⟨(some 2), .none, (.mov (.c (.int .i64 0))), 0, []⟩]) (.seq (.seq (.reg false [⟨(some 5), .none, (.mov (.t 0)), 0, []⟩, ⟨(some 6), .none, (.lenT (.t 5)), 1, []⟩, ⟨(some 7), .none, (.bin .eql (.t 6) (.c (.int .i64 0))), 2, []⟩, ⟨(some 8), .none, (.mov (.t 7)), 3, []⟩, ⟨(some 9), (.some (8, false)), (.mov (.t 0)), 4, []⟩, ⟨(some 10), (.some (8, false)), (.idx (.t 9) (.c (.int .i64 0))), 5, []⟩, ⟨(some 11), (.some (8, false)), (.bin .neq (.t 10) (.c (.int .u8 115))), 6, []⟩, ⟨(some 12), .none, (.pick (.t 8) (.c (.bool true)) (.t 11)), 7, []⟩]) (.cond (.t 12) (.seq (.reg false [⟨(some 2), .none, (.mov (.c (.int .i64 0))), 0, []⟩]) .ret) .skip)) (.seq (.reg false [⟨(some 14), .none, (.mov (.t 0)), 0, []⟩, ⟨(some 15), .none, (.slcS (.t 14) (.some (.c (.int .i64 1))) .none), 1, []⟩, ⟨(some 16), .none, (.call 127 [(.t 15)]), 2, []⟩, ⟨(some 13), .none, (.mov (.t 16)), 3, []⟩, ⟨(some 17), .none, (.ext (.t 13) 0), 4, []⟩, ⟨(some 18), .none, (.ext (.t 13) 1), 5, []⟩, ⟨(some 3), .none, (.mov (.t 17)), 6, []⟩, ⟨(some 4), .none, (.mov (.t 18)), 7, []⟩]) (.seq (.reg false [⟨(some 19), .none, (.mov (.t 3)), 0, []⟩, ⟨(some 2), .none, (.mov (.t 19)), 1, []⟩]) .ret)))), [(.t 2)]⟩
theorem k108 : EE.fns 108 = some c108 := by kernel_rfl
def c109 : CF := ⟨18, (.seq (.reg false [⟨(some 4), .none, (.mov (.c (.bool false))), 0, []⟩]) (.seq (.seq (.reg false [⟨(some 5), .none, (.mov (.c (.int .i64 0))), 0, []⟩]) (.block 0 (.loop (.seq (.seq (.reg false [⟨(some 6), .none, (.mov (.t 5)), 0, []⟩, ⟨(some 7), .none, (.mov (.t 0)), 1, []⟩, ⟨(some 8), .none, (.lenS (.t 7)), 2, []⟩, ⟨(some 9), .none, (.bin .lss (.t 6) (.t 8)), 3, []⟩]) (.cond (.t 9) .skip (.exit 0))) (.seq (.block 1 (.seq (.reg false [⟨(some 12), .none, (.mov (.t 0)), 0, []⟩, ⟨(some 13), .none, (.mov (.t 5)), 1, []⟩, ⟨(some 14), .none, (.iadr 1 (.t 12) (.t 13)), 2, []⟩, ⟨(some 15), .none, (.load 1 false (.t 14)), 3, []⟩, ⟨(some 16), .none, (.mov (.t 1)), 4, []⟩, ⟨(some 17), .none, (.bin .eql (.t 15) (.t 16)), 5, []⟩]) (.cond (.t 17) (.seq (.reg false [⟨(some 4), .none, (.mov (.c (.bool true))), 0, []⟩]) .ret) .skip))) (.reg false [⟨(some 10), .none, (.mov (.t 5)), 0, []⟩, ⟨(some 11), .none, (.bin .add (.t 10) (.c (.int .i64 1))), 1, []⟩, ⟨(some 5), .none, (.mov (.t 11)), 2, []⟩])))))) (.seq (.reg false [⟨(some 4), .none, (.mov (.c (.bool false))), 0, []⟩]) .ret))), [(.t 4)]⟩
theorem k109 : EE.fns 109 = some c109 := by kernel_rfl
def c110 : CF := ⟨21, (.seq (.reg false [⟨(some 2), .none, (.mov (.c (.int .i64 0))), 0, []⟩, ⟨(some 3), .none, (.mov (.c (.bool false))), 1, []⟩]) (.seq (.seq (.reg false [⟨(some 6), .none, (.mov (.t 0)), 0, []⟩, ⟨(some 7), .none, (.call 88 [(.t 6)]), 1, []⟩, ⟨(some 8), .none, (.un .not (.t 7)), 2, []⟩, ⟨(some 9), .none, (.mov (.t 8)), 3, []⟩, ⟨(some 10), (.some (9, false)), (.mov (.t 0)), 4, []⟩, ⟨(some 11), (.some (9, false)), (.idx (.t 10) (.c (.int .i64 0))), 5, []⟩, ⟨(some 12), (.some (9, false)), (.bin .neq (.t 11) (.c (.int .u8 107))), 6, []⟩, ⟨(some 13), .none, (.pick (.t 9) (.c (.bool true)) (.t 12)), 7, []⟩]) (.cond (.t 13) (.seq (.reg false [⟨(some 2), .none, (.mov (.c (.int .i64 0))), 0, []⟩, ⟨(some 3), .none, (.mov (.c (.bool false))), 1, []⟩]) .ret) .skip)) (.seq (.reg false [⟨(some 15), .none, (.mov (.t 0)), 0, []⟩, ⟨(some 16), .none, (.slcS (.t 15) (.some (.c (.int .i64 1))) .none), 1, []⟩, ⟨(some 17), .none, (.call 127 [(.t 16)]), 2, []⟩, ⟨(some 14), .none, (.mov (.t 17)), 3, []⟩, ⟨(some 18), .none, (.ext (.t 14) 0), 4, []⟩, ⟨(some 19), .none, (.ext (.t 14) 1), 5, []⟩, ⟨(some 4), .none, (.mov (.t 18)), 6, []⟩, ⟨(some 5), .none, (.mov (.t 19)), 7, []⟩]) (.seq (.reg false [⟨(some 20), .none, (.mov (.t 4)), 0, []⟩, ⟨(some 2), .none, (.mov (.t 20)), 1, []⟩, ⟨(some 3), .none, (.mov (.c (.bool true))), 2, []⟩]) .ret)))), [(.t 2), (.t 3)]⟩
theorem k110 : EE.fns 110 = some c110 := by kernel_rfl
def c111 : CF := ⟨9, (.seq (.reg false [⟨(some 4), .none, (.mov (.c (.bool false))), 0, []⟩]) (.seq (.reg false [⟨(some 5), .none, (.mov (.t 0)), 0, []⟩, ⟨(some 6), .none, (.mov (.t 1)), 1, []⟩, ⟨(some 7), .none, (.call 129 [(.t 5), (.t 6)]), 2, []⟩, ⟨(some 8), .none, (.bin .geq (.t 7) (.c (.int .i64 0))), 3, []⟩, ⟨(some 4), .none, (.mov (.t 8)), 4, []⟩]) .ret)), [(.t 4)]⟩
theorem k111 : EE.fns 111 = some c111 := by kernel_rfl
def c113 : CF := ⟨9, (.seq (.reg false [⟨(some 4), .none, (.mov (.c (.bool false))), 0, []⟩]) (.seq (.reg false [⟨(some 5), .none, (.mov (.t 0)), 0, []⟩, ⟨(some 6), .none, (.mov (.t 1)), 1, []⟩, ⟨(some 7), .none, (.call 130 [(.t 5), (.t 6)]), 2, []⟩, ⟨(some 8), .none, (.bin .geq (.t 7) (.c (.int .i64 0))), 3, []⟩, ⟨(some 4), .none, (.mov (.t 8)), 4, []⟩]) .ret)), [(.t 4)]⟩
theorem k113 : EE.fns 113 = some c113 := by kernel_rfl
def c114 : CF := ⟨7, (.seq (.reg false [⟨(some 2), .none, (.mov (.c (.string ⟨#[]⟩))), 0, []⟩]) (.seq (.reg false [⟨(some 3), .none, (.mov (.t 0)), 0, []⟩, ⟨(some 4), .none, (.call 99 [(.t 3)]), 1, []⟩, ⟨(some 5), .none, (.bin .add (.c (.string ⟨#[107]⟩)) (.t 4)), 2, []⟩, ⟨(some 6), .none, (.call 98 [(.t 5)]), 3, []⟩, ⟨(some 2), .none, (.mov (.t 6)), 4, []⟩]) .ret)), [(.t 2)]⟩
theorem k114 : EE.fns 114 = some c114 := by kernel_rfl
def c115 : CF := ⟨20, (.seq (.reg false [⟨(some 2), .none, (.mov (.c (.bool false))), 0, []⟩]) (.seq (.seq (.reg false [⟨(some 3), .none, (.mov (.c (.int .i64 1))), 0, []⟩]) (.block 0 (.loop (.seq (.seq (.reg false [⟨(some 4), .none, (.mov (.t 3)), 0, []⟩, ⟨(some 5), .none, (.mov (.t 0)), 1, []⟩, ⟨(some 6), .none, (.lenS (.t 5)), 2, []⟩, ⟨(some 7), .none, (.bin .lss (.t 4) (.t 6)), 3, []⟩]) (.cond (.t 7) .skip (.exit 0))) (.seq (.block 1 (.seq (.reg true [⟨(some 10), .none, (.mov (.t 0)), 0, []⟩, ⟨(some 11), .none, (.mov (.t 3)), 1, []⟩, ⟨(some 12), .none, (.bin .sub (.t 11) (.c (.int .i64 1))), 2, [1]⟩, ⟨(some 13), .none, (.iadr 1 (.t 10) (.t 12)), 3, [0, 2, 1]⟩, ⟨(some 14), .none, (.load 1 false (.t 13)), 4, [3, 0, 2, 1]⟩, ⟨(some 15), .none, (.mov (.t 0)), 5, []⟩, ⟨(some 16), .none, (.mov (.t 3)), 6, []⟩, ⟨(some 17), .none, (.iadr 1 (.t 15) (.t 16)), 7, [5, 6]⟩, ⟨(some 18), .none, (.load 1 false (.t 17)), 8, [7, 5, 6]⟩, ⟨(some 19), .none, (.bin .geq (.t 14) (.t 18)), 9, [4, 3, 0, 2, 1, 8, 7, 5, 6]⟩]) (.cond (.t 19) (.seq (.reg false [⟨(some 2), .none, (.mov (.c (.bool false))), 0, []⟩]) .ret) .skip))) (.reg false [⟨(some 8), .none, (.mov (.t 3)), 0, []⟩, ⟨(some 9), .none, (.bin .add (.t 8) (.c (.int .i64 1))), 1, []⟩, ⟨(some 3), .none, (.mov (.t 9)), 2, []⟩])))))) (.seq (.reg false [⟨(some 2), .none, (.mov (.c (.bool true))), 0, []⟩]) .ret))), [(.t 2)]⟩
theorem k115 : EE.fns 115 = some c115 := by kernel_rfl
def c116 : CF := ⟨20, (.seq (.reg false [⟨(some 4), .none, (.mov (.c (.int .i64 0))), 0, []⟩]) (.seq (.seq (.reg false [⟨(some 5), .none, (.mov (.c (.int .i64 0))), 0, []⟩]) (.block 0 (.loop (.seq (.seq (.reg false [⟨(some 6), .none, (.mov (.t 5)), 0, []⟩, ⟨(some 7), .none, (.mov (.t 0)), 1, []⟩, ⟨(some 8), .none, (.lenS (.t 7)), 2, []⟩, ⟨(some 9), .none, (.bin .lss (.t 6) (.t 8)), 3, []⟩]) (.cond (.t 9) .skip (.exit 0))) (.seq (.block 1 (.seq (.reg false [⟨(some 12), .none, (.mov (.t 0)), 0, []⟩, ⟨(some 13), .none, (.mov (.t 5)), 1, []⟩, ⟨(some 14), .none, (.iadr 3 (.t 12) (.t 13)), 2, []⟩, ⟨(some 15), .none, (.fadr 0 (.t 14)), 3, []⟩, ⟨(some 16), .none, (.load 1 false (.t 15)), 4, []⟩, ⟨(some 17), .none, (.mov (.t 1)), 5, []⟩, ⟨(some 18), .none, (.bin .eql (.t 16) (.t 17)), 6, []⟩]) (.cond (.t 18) (.seq (.reg false [⟨(some 19), .none, (.mov (.t 5)), 0, []⟩, ⟨(some 4), .none, (.mov (.t 19)), 1, []⟩]) .ret) .skip))) (.reg false [⟨(some 10), .none, (.mov (.t 5)), 0, []⟩, ⟨(some 11), .none, (.bin .add (.t 10) (.c (.int .i64 1))), 1, []⟩, ⟨(some 5), .none, (.mov (.t 11)), 2, []⟩])))))) (.seq (.reg false [⟨(some 4), .none, (.mov (.c (.int .i64 (-1)))), 0, []⟩]) .ret))), [(.t 4)]⟩
theorem k116 : EE.fns 116 = some c116 := by kernel_rfl
def c117 : CF := ⟨36, (.seq (.reg false [⟨(some 3), .none, (.boxV (.t 0)), 0, []⟩, ⟨(some 6), .none, (.mov (.c (.int .i64 0))), 1, []⟩]) (.seq (.seq (.reg false [⟨(some 10), .none, (.fadr 1 (.t 3)), 0, []⟩, ⟨(some 11), .none, (.load 1 false (.t 10)), 1, []⟩, ⟨(some 12), .none, (.mov (.t 2)), 2, []⟩, ⟨(some 13), .none, (.call 109 [(.t 11), (.t 12)]), 3, []⟩]) (.cond (.t 13) (.seq (.reg false [⟨(some 6), .none, (.mov (.c (.int .i64 (-2)))), 0, []⟩]) .ret) .skip)) (.seq (.seq (.reg false [⟨(some 7), .none, (.mov (.c (.int .i64 0))), 0, []⟩]) (.block 0 (.loop (.seq (.seq (.reg false [⟨(some 14), .none, (.mov (.t 7)), 0, []⟩, ⟨(some 15), .none, (.mov (.t 1)), 1, []⟩, ⟨(some 16), .none, (.lenS (.t 15)), 2, []⟩, ⟨(some 17), .none, (.bin .lss (.t 14) (.t 16)), 3, []⟩]) (.cond (.t 17) .skip (.exit 0))) (.seq (.block 1 (.seq (.reg false [⟨(some 21), .none, (.mov (.t 1)), 0, []⟩, ⟨(some 22), .none, (.mov (.t 7)), 1, []⟩, ⟨(some 23), .none, (.iadr 3 (.t 21) (.t 22)), 2, []⟩, ⟨(some 24), .none, (.fadr 0 (.t 23)), 3, []⟩, ⟨(some 25), .none, (.load 1 false (.t 24)), 4, []⟩, ⟨(some 26), .none, (.call 110 [(.t 25)]), 5, []⟩, ⟨(some 20), .none, (.mov (.t 26)), 6, []⟩, ⟨(some 27), .none, (.ext (.t 20) 0), 7, []⟩, ⟨(some 28), .none, (.ext (.t 20) 1), 8, []⟩, ⟨(some 8), .none, (.mov (.t 27)), 9, []⟩, ⟨(some 9), .none, (.mov (.t 28)), 10, []⟩]) (.seq (.reg false [⟨(some 29), .none, (.mov (.t 9)), 0, []⟩, ⟨(some 30), .none, (.mov (.t 29)), 1, []⟩, ⟨(some 31), (.some (30, true)), (.mov (.t 8)), 2, []⟩, ⟨(some 32), (.some (30, true)), (.mov (.t 2)), 3, []⟩, ⟨(some 33), (.some (30, true)), (.bin .eql (.t 31) (.t 32)), 4, []⟩, ⟨(some 34), .none, (.pick (.t 30) (.t 33) (.c (.bool false))), 5, []⟩]) (.cond (.t 34) (.seq (.reg false [⟨(some 35), .none, (.mov (.t 7)), 0, []⟩, ⟨(some 6), .none, (.mov (.t 35)), 1, []⟩]) .ret) .skip)))) (.reg false [⟨(some 18), .none, (.mov (.t 7)), 0, []⟩, ⟨(some 19), .none, (.bin .add (.t 18) (.c (.int .i64 1))), 1, []⟩, ⟨(some 7), .none, (.mov (.t 19)), 2, []⟩])))))) (.seq (.reg false [⟨(some 6), .none, (.mov (.c (.int .i64 (-3)))), 0, []⟩]) .ret)))), [(.t 6)]⟩
theorem k117 : EE.fns 117 = some c117 := by kernel_rfl
def c121 : CF := ⟨19, (.seq (.reg false [⟨(some 4), .none, (.mov (.c (.int .i64 0))), 0, []⟩]) (.seq (.seq (.reg false [⟨(some 6), .none, (.mov (.t 0)), 0, []⟩, ⟨(some 7), .none, (.lenS (.t 6)), 1, []⟩, ⟨(some 8), .none, (.mov (.c (.int .i64 0))), 2, []⟩]) (.block 0 (.loop (.seq (.reg false [⟨(some 9), .none, (.bin .lss (.t 8) (.t 7)), 0, []⟩]) (.seq (.cond (.t 9) .skip (.exit 0)) (.seq (.block 1 (.seq (.reg false [⟨(some 10), .none, (.mov (.t 8)), 0, []⟩, ⟨(some 5), .none, (.mov (.t 10)), 1, []⟩]) (.seq (.reg false [⟨(some 11), .none, (.mov (.t 1)), 0, []⟩, ⟨(some 12), .none, (.mov (.t 0)), 1, []⟩, ⟨(some 13), .none, (.mov (.t 5)), 2, []⟩, ⟨(some 14), .none, (.iadr 3 (.t 12) (.t 13)), 3, []⟩, ⟨(some 15), .none, (.load 3 true (.t 14)), 4, []⟩, ⟨(some 16), .none, (.callV (.t 11) [(.t 15)]), 5, []⟩]) (.cond (.t 16) (.seq (.reg false [⟨(some 17), .none, (.mov (.t 5)), 0, []⟩, ⟨(some 4), .none, (.mov (.t 17)), 1, []⟩]) .ret) .skip)))) (.reg false [⟨(some 18), .none, (.bin .add (.t 8) (.c (.int .i64 1))), 0, []⟩, ⟨(some 8), .none, (.mov (.t 18)), 1, []⟩]))))))) (.seq (.reg false [⟨(some 4), .none, (.mov (.c (.int .i64 (-1)))), 0, []⟩]) .ret))), [(.t 4)]⟩
theorem k121 : EE.fns 121 = some c121 := by kernel_rfl
def c122 : CF := ⟨8, (.seq (.reg false [⟨(some 2), .none, (.boxV (.t 0)), 0, []⟩, ⟨(some 3), .none, (.mov (.c (.bool false))), 1, []⟩]) (.seq (.reg false [⟨(some 4), .none, (.fadr 0 (.t 2)), 0, []⟩, ⟨(some 5), .none, (.load 1 false (.t 4)), 1, []⟩, ⟨(some 6), .none, (.load 1 false (.t 1)), 2, []⟩, ⟨(some 7), .none, (.bin .eql (.t 5) (.t 6)), 3, []⟩, ⟨(some 3), .none, (.mov (.t 7)), 4, []⟩]) .ret)), [(.t 3)]⟩
theorem k122 : EE.fns 122 = some c122 := by kernel_rfl
def c129 : CF := ⟨19, (.seq (.reg false [⟨(some 4), .none, (.mov (.c (.int .i64 0))), 0, []⟩]) (.seq (.seq (.reg false [⟨(some 6), .none, (.mov (.t 0)), 0, []⟩, ⟨(some 7), .none, (.lenS (.t 6)), 1, []⟩, ⟨(some 8), .none, (.mov (.c (.int .i64 0))), 2, []⟩]) (.block 0 (.loop (.seq (.reg false [⟨(some 9), .none, (.bin .lss (.t 8) (.t 7)), 0, []⟩]) (.seq (.cond (.t 9) .skip (.exit 0)) (.seq (.block 1 (.seq (.reg false [⟨(some 10), .none, (.mov (.t 8)), 0, []⟩, ⟨(some 5), .none, (.mov (.t 10)), 1, []⟩]) (.seq (.reg false [⟨(some 11), .none, (.mov (.t 1)), 0, []⟩, ⟨(some 12), .none, (.mov (.t 0)), 1, []⟩, ⟨(some 13), .none, (.mov (.t 5)), 2, []⟩, ⟨(some 14), .none, (.iadr 1 (.t 12) (.t 13)), 3, []⟩, ⟨(some 15), .none, (.load 1 false (.t 14)), 4, []⟩, ⟨(some 16), .none, (.bin .eql (.t 11) (.t 15)), 5, []⟩]) (.cond (.t 16) (.seq (.reg false [⟨(some 17), .none, (.mov (.t 5)), 0, []⟩, ⟨(some 4), .none, (.mov (.t 17)), 1, []⟩]) .ret) .skip)))) (.reg false [⟨(some 18), .none, (.bin .add (.t 8) (.c (.int .i64 1))), 0, []⟩, ⟨(some 8), .none, (.mov (.t 18)), 1, []⟩]))))))) (.seq (.reg false [⟨(some 4), .none, (.mov (.c (.int .i64 (-1)))), 0, []⟩]) .ret))), [(.t 4)]⟩
theorem k129 : EE.fns 129 = some c129 := by kernel_rfl
def c130 : CF := ⟨19, (.seq (.reg false [⟨(some 4), .none, (.mov (.c (.int .i64 0))), 0, []⟩]) (.seq (.seq (.reg false [⟨(some 6), .none, (.mov (.t 0)), 0, []⟩, ⟨(some 7), .none, (.lenS (.t 6)), 1, []⟩, ⟨(some 8), .none, (.mov (.c (.int .i64 0))), 2, []⟩]) (.block 0 (.loop (.seq (.reg false [⟨(some 9), .none, (.bin .lss (.t 8) (.t 7)), 0, []⟩]) (.seq (.cond (.t 9) .skip (.exit 0)) (.seq (.block 1 (.seq (.reg false [⟨(some 10), .none, (.mov (.t 8)), 0, []⟩, ⟨(some 5), .none, (.mov (.t 10)), 1, []⟩]) (.seq (.reg false [⟨(some 11), .none, (.mov (.t 1)), 0, []⟩, ⟨(some 12), .none, (.mov (.t 0)), 1, []⟩, ⟨(some 13), .none, (.mov (.t 5)), 2, []⟩, ⟨(some 14), .none, (.iadr 1 (.t 12) (.t 13)), 3, []⟩, ⟨(some 15), .none, (.load 1 false (.t 14)), 4, []⟩, ⟨(some 16), .none, (.bin .eql (.t 11) (.t 15)), 5, []⟩]) (.cond (.t 16) (.seq (.reg false [⟨(some 17), .none, (.mov (.t 5)), 0, []⟩, ⟨(some 4), .none, (.mov (.t 17)), 1, []⟩]) .ret) .skip)))) (.reg false [⟨(some 18), .none, (.bin .add (.t 8) (.c (.int .i64 1))), 0, []⟩, ⟨(some 8), .none, (.mov (.t 18)), 1, []⟩]))))))) (.seq (.reg false [⟨(some 4), .none, (.mov (.c (.int .i64 (-1)))), 0, []⟩]) .ret))), [(.t 4)]⟩
theorem k130 : EE.fns 130 = some c130 := by kernel_rfl
def c131 : CF := ⟨9, (.seq (.reg false [⟨(some 2), .none, (.mov (.c (.string ⟨#[]⟩))), 0, []⟩]) (.seq (.seq (.reg false [⟨(some 3), .none, (.mov (.t 0)), 0, []⟩, ⟨(some 4), .none, (.call 90 [(.t 3), (.c (.int .i64 1)), (.c (.int .i64 1000000))]), 1, []⟩, ⟨(some 5), .none, (.un .not (.t 4)), 2, []⟩]) (.cond (.t 5) (.seq (.reg false [⟨(some 2), .none, (.mov (.c (.string ⟨#[]⟩))), 0, []⟩]) .ret) .skip)) (.seq (.reg false [⟨(some 6), .none, (.mov (.t 0)), 0, []⟩, ⟨(some 7), .none, (.call 94 [(.t 6)]), 1, []⟩, ⟨(some 8), .none, (.bin .add (.c (.string ⟨#[107]⟩)) (.t 7)), 2, []⟩, ⟨(some 2), .none, (.mov (.t 8)), 3, []⟩]) .ret))), [(.t 2)]⟩
theorem k131 : EE.fns 131 = some c131 := by kernel_rfl
def c9 : CF := ⟨69, (.seq (.reg false [⟨(some 1), .none, (.boxV (.t 0)), 0, []⟩, ⟨(some 2), .none, (.mov (.c (.bool false))), 1, []⟩]) (.seq (.reg false [⟨(some 3), .none, (.mov (.c (.int .i64 1048576))), 0, []⟩]) (.seq (.reg false [⟨(some 11), .none, (.load 2 true (.t 1)), 0, []⟩, ⟨(some 12), .none, (.mov (.t 3)), 1, []⟩, ⟨(some 13), .none, (.call 35 [(.t 11), (.t 12)]), 2, []⟩, ⟨(some 3), .none, (.mov (.t 13)), 3, []⟩]) (.seq (.seq (.reg false [⟨(some 14), .none, (.mov (.t 3)), 0, []⟩, ⟨(some 15), .none, (.bin .lss (.t 14) (.c (.int .i64 0))), 1, []⟩]) (.cond (.t 15) (.seq (.reg false [⟨(some 2), .none, (.mov (.c (.bool true))), 0, []⟩]) .ret) .skip)) (.seq (.reg false [⟨(some 16), .none, (.load 2 true (.t 1)), 0, []⟩, ⟨(some 17), .none, (.call 38 [(.t 16)]), 1, []⟩, ⟨(some 18), .none, (.call 43 [(.t 17)]), 2, []⟩, ⟨(some 4), .none, (.mov (.t 18)), 3, []⟩]) (.seq (.reg false [⟨(some 19), .none, (.load 2 true (.t 1)), 0, []⟩, ⟨(some 20), .none, (.call 38 [(.t 19)]), 1, []⟩, ⟨(some 5), .none, (.newV [(.slice .none 0 0), (.slice .none 0 0)]), 2, []⟩, ⟨.none, .none, (.store 2 (.t 5) (.t 20)), 3, []⟩]) (.seq (.reg false [⟨(some 21), .none, (.load 2 true (.t 5)), 0, []⟩, ⟨(some 22), .none, (.call 44 [(.t 21)]), 1, []⟩, ⟨(some 6), .none, (.mov (.t 22)), 2, []⟩]) (.seq (.seq (.reg false [⟨(some 23), .none, (.mov (.t 6)), 0, []⟩, ⟨(some 24), .none, (.mov (.t 4)), 1, []⟩, ⟨(some 25), .none, (.call 42 [(.t 23), (.t 24)]), 2, []⟩, ⟨(some 26), .none, (.un .not (.t 25)), 3, []⟩]) (.cond (.t 26) (.seq (.reg false [⟨(some 2), .none, (.mov (.c (.bool false))), 0, []⟩]) .ret) .skip)) (.seq (.seq (.reg true [⟨(some 27), .none, (.load 2 true (.t 5)), 0, []⟩, ⟨(some 28), .none, (.load 2 true (.t 1)), 1, []⟩, ⟨(some 29), .none, (.call 38 [(.t 28)]), 2, [1]⟩, ⟨(some 30), .none, (.call 41 [(.t 27), (.t 29)]), 3, [0, 2, 1]⟩, ⟨(some 31), .none, (.un .not (.t 30)), 4, [3, 0, 2, 1]⟩]) (.cond (.t 31) (.seq (.reg false [⟨(some 2), .none, (.mov (.c (.bool false))), 0, []⟩]) .ret) .skip)) (.seq (.reg false [⟨(some 7), .none, (.mov (.c (.int .i64 1))), 0, []⟩]) (.seq (.reg false [⟨(some 32), .none, (.load 2 true (.t 5)), 0, []⟩, ⟨(some 33), .none, (.mov (.t 7)), 1, []⟩, ⟨(some 34), .none, (.call 45 [(.t 32), (.t 33)]), 2, []⟩, ⟨(some 7), .none, (.mov (.t 34)), 3, []⟩]) (.seq (.seq (.reg false [⟨(some 35), .none, (.mov (.t 7)), 0, []⟩, ⟨(some 36), .none, (.bin .lss (.t 35) (.c (.int .i64 0))), 1, []⟩, ⟨(some 37), .none, (.mov (.t 36)), 2, []⟩, ⟨(some 38), (.some (37, false)), (.mov (.t 6)), 3, []⟩, ⟨(some 39), (.some (37, false)), (.mov (.t 4)), 4, []⟩, ⟨(some 40), (.some (37, false)), (.call 42 [(.t 38), (.t 39)]), 5, []⟩, ⟨(some 41), (.some (37, false)), (.un .not (.t 40)), 6, []⟩, ⟨(some 42), .none, (.pick (.t 37) (.c (.bool true)) (.t 41)), 7, []⟩]) (.cond (.t 42) (.seq (.reg false [⟨(some 2), .none, (.mov (.c (.bool false))), 0, []⟩]) .ret) .skip)) (.seq (.reg false [⟨(some 8), .none, (.mov (.c (.int .i64 1))), 0, []⟩]) (.seq (.reg false [⟨(some 43), .none, (.mov (.t 6)), 0, []⟩, ⟨(some 44), .none, (.mov (.t 8)), 1, []⟩, ⟨(some 45), .none, (.call 46 [(.t 43), (.t 44)]), 2, []⟩, ⟨(some 8), .none, (.mov (.t 45)), 3, []⟩]) (.seq (.reg false [⟨(some 9), .none, (.mov (.c (.int .i64 1))), 0, []⟩]) (.seq (.reg false [⟨(some 46), .none, (.mov (.t 6)), 0, []⟩, ⟨(some 47), .none, (.mov (.t 9)), 1, []⟩, ⟨(some 48), .none, (.call 47 [(.t 46), (.t 47)]), 2, []⟩, ⟨(some 9), .none, (.mov (.t 48)), 3, []⟩]) (.seq (.seq (.reg false [⟨(some 49), .none, (.mov (.t 9)), 0, []⟩, ⟨(some 50), .none, (.bin .lss (.t 49) (.c (.int .i64 0))), 1, []⟩]) (.cond (.t 50) (.seq (.reg false [⟨(some 2), .none, (.mov (.c (.bool false))), 0, []⟩]) .ret) .skip)) (.seq (.seq (.reg false [⟨(some 51), .none, (.mov (.t 9)), 0, []⟩, ⟨(some 52), .none, (.mov (.t 8)), 1, []⟩, ⟨(some 53), .none, (.bin .neq (.t 51) (.t 52)), 2, []⟩]) (.cond (.t 53) (.seq (.reg false [⟨(some 2), .none, (.mov (.c (.bool false))), 0, []⟩]) .ret) .skip)) (.seq (.reg false [⟨(some 54), .none, (.load 2 true (.t 1)), 0, []⟩, ⟨(some 55), .none, (.call 38 [(.t 54)]), 1, []⟩, ⟨(some 56), .none, (.call 44 [(.t 55)]), 2, []⟩, ⟨(some 10), .none, (.mov (.t 56)), 3, []⟩]) (.seq (.seq (.reg false [⟨(some 57), .none, (.mov (.t 10)), 0, []⟩, ⟨(some 58), .none, (.mov (.t 4)), 1, []⟩, ⟨(some 59), .none, (.call 42 [(.t 57), (.t 58)]), 2, []⟩, ⟨(some 60), .none, (.un .not (.t 59)), 3, []⟩]) (.cond (.t 60) (.seq (.reg false [⟨(some 2), .none, (.mov (.c (.bool false))), 0, []⟩]) .ret) .skip)) (.seq (.reg false [⟨(some 9), .none, (.mov (.c (.int .i64 1))), 0, []⟩]) (.seq (.reg false [⟨(some 61), .none, (.mov (.t 6)), 0, []⟩, ⟨(some 62), .none, (.mov (.t 9)), 1, []⟩, ⟨(some 63), .none, (.call 47 [(.t 61), (.t 62)]), 2, []⟩, ⟨(some 9), .none, (.mov (.t 63)), 3, []⟩]) (.seq (.seq (.reg false [⟨(some 64), .none, (.mov (.t 9)), 0, []⟩, ⟨(some 65), .none, (.bin .lss (.t 64) (.c (.int .i64 0))), 1, []⟩]) (.cond (.t 65) (.seq (.reg false [⟨(some 2), .none, (.mov (.c (.bool false))), 0, []⟩]) .ret) .skip)) (.seq (.seq (.reg false [⟨(some 66), .none, (.mov (.t 9)), 0, []⟩, ⟨(some 67), .none, (.mov (.t 8)), 1, []⟩, ⟨(some 68), .none, (.bin .neq (.t 66) (.t 67)), 2, []⟩]) (.cond (.t 68) (.seq (.reg false [⟨(some 2), .none, (.mov (.c (.bool false))), 0, []⟩]) .ret) .skip)) (.seq (.reg false [⟨(some 2), .none, (.mov (.c (.bool true))), 0, []⟩]) .ret))))))))))))))))))))))))), [(.t 2)]⟩
theorem k9 : EE.fns 9 = some c9 := by kernel_rfl
def c43 : CF := ⟨45, (.seq (.reg false [⟨(some 1), .none, (.boxV (.t 0)), 0, []⟩, ⟨(some 2), .none, (.mov (.c (.slice .none 0 0))), 1, []⟩]) (.seq (.reg false [⟨(some 7), .none, (.mkO 0 3 [(.string ⟨#[]⟩), (.int .i64 0), (.int .i64 0)] []), 0, []⟩, ⟨(some 3), .none, (.mov (.t 7)), 1, []⟩]) (.seq (.seq (.reg false [⟨(some 8), .none, (.load 2 true (.t 1)), 0, []⟩, ⟨(some 9), .none, (.call 49 [(.t 8)]), 1, []⟩, ⟨(some 10), .none, (.un .not (.t 9)), 2, []⟩]) (.cond (.t 10) (.seq (.reg false [⟨(some 11), .none, (.mov (.t 3)), 0, []⟩, ⟨(some 2), .none, (.mov (.t 11)), 1, []⟩]) .ret) .skip)) (.seq (.seq (.reg false [⟨(some 4), .none, (.mov (.c (.int .i64 0))), 0, []⟩]) (.block 0 (.loop (.seq (.seq (.reg false [⟨(some 12), .none, (.mov (.t 4)), 0, []⟩, ⟨(some 13), .none, (.fadr 0 (.t 1)), 1, []⟩, ⟨(some 14), .none, (.load 1 false (.t 13)), 2, []⟩, ⟨(some 15), .none, (.lenS (.t 14)), 3, []⟩, ⟨(some 16), .none, (.bin .lss (.t 12) (.t 15)), 4, []⟩]) (.cond (.t 16) .skip (.exit 0))) (.seq (.block 1 (.reg false [⟨(some 19), .none, (.mov (.t 3)), 0, []⟩, ⟨(some 20), .none, (.fadr 0 (.t 1)), 1, []⟩, ⟨(some 21), .none, (.load 1 false (.t 20)), 2, []⟩, ⟨(some 22), .none, (.mov (.t 4)), 3, []⟩, ⟨(some 23), .none, (.iadr 1 (.t 21) (.t 22)), 4, []⟩, ⟨(some 24), .none, (.load 1 false (.t 23)), 5, []⟩, ⟨(some 25), .none, (.build [(.string ⟨#[]⟩), (.int .i64 0), (.int .i64 0)] [(0, (1, (.t 24))), (1, (1, (.c (.int .i64 (-1))))), (2, (1, (.c (.int .i64 (-1)))))]), 6, []⟩, ⟨(some 26), .none, (.mkV 1 3 [(.string ⟨#[]⟩), (.int .i64 0), (.int .i64 0)] [(0, (.t 25))]), 7, []⟩, ⟨(some 27), .none, (.app 3 32 (.t 19) (.t 26)), 8, []⟩, ⟨(some 3), .none, (.mov (.t 27)), 9, []⟩])) (.reg false [⟨(some 17), .none, (.mov (.t 4)), 0, []⟩, ⟨(some 18), .none, (.bin .add (.t 17) (.c (.int .i64 1))), 1, []⟩, ⟨(some 4), .none, (.mov (.t 18)), 2, []⟩])))))) (.block 2 (.loop (.block 3 (.seq (.reg false [⟨(some 28), .none, (.mov (.t 3)), 0, []⟩, ⟨(some 29), .none, (.lenS (.t 28)), 1, []⟩, ⟨(some 5), .none, (.mov (.t 29)), 2, []⟩]) (.seq (.seq (.reg false [⟨(some 6), .none, (.mov (.c (.int .i64 0))), 0, []⟩]) (.block 4 (.loop (.seq (.seq (.reg false [⟨(some 30), .none, (.mov (.t 6)), 0, []⟩, ⟨(some 31), .none, (.mov (.t 3)), 1, []⟩, ⟨(some 32), .none, (.lenS (.t 31)), 2, []⟩, ⟨(some 33), .none, (.bin .lss (.t 30) (.t 32)), 3, []⟩]) (.cond (.t 33) .skip (.exit 4))) (.seq (.block 5 (.reg false [⟨(some 36), .none, (.load 2 true (.t 1)), 0, []⟩, ⟨(some 37), .none, (.mov (.t 3)), 1, []⟩, ⟨(some 38), .none, (.mov (.t 6)), 2, []⟩, ⟨(some 39), .none, (.call 80 [(.t 36), (.t 37), (.t 38)]), 3, []⟩, ⟨(some 3), .none, (.mov (.t 39)), 4, []⟩])) (.reg false [⟨(some 34), .none, (.mov (.t 6)), 0, []⟩, ⟨(some 35), .none, (.bin .add (.t 34) (.c (.int .i64 1))), 1, []⟩, ⟨(some 6), .none, (.mov (.t 35)), 2, []⟩])))))) (.seq (.reg false [⟨(some 40), .none, (.mov (.t 3)), 0, []⟩, ⟨(some 41), .none, (.lenS (.t 40)), 1, []⟩, ⟨(some 42), .none, (.mov (.t 5)), 2, []⟩, ⟨(some 43), .none, (.bin .eql (.t 41) (.t 42)), 3, []⟩]) (.cond (.t 43) (.seq (.reg false [⟨(some 44), .none, (.mov (.t 3)), 0, []⟩, ⟨(some 2), .none, (.mov (.t 44)), 1, []⟩]) .ret) .skip))))))))))), [(.t 2)]⟩
theorem k43 : EE.fns 43 = some c43 := by kernel_rfl
def c44 : CF := ⟨104, (.seq (.reg false [⟨(some 1), .none, (.boxV (.t 0)), 0, []⟩, ⟨(some 2), .none, (.mov (.c (.slice .none 0 0))), 1, []⟩]) (.seq (.reg false [⟨(some 16), .none, (.mkO 0 3 [(.string ⟨#[]⟩), (.int .i64 0), (.int .i64 0)] []), 0, []⟩, ⟨(some 3), .none, (.mov (.t 16)), 1, []⟩]) (.seq (.seq (.reg false [⟨(some 17), .none, (.load 2 true (.t 1)), 0, []⟩, ⟨(some 18), .none, (.call 77 [(.t 17)]), 1, []⟩, ⟨(some 19), .none, (.un .not (.t 18)), 2, []⟩]) (.cond (.t 19) (.seq (.reg false [⟨(some 20), .none, (.mov (.t 3)), 0, []⟩, ⟨(some 2), .none, (.mov (.t 20)), 1, []⟩]) .ret) .skip)) (.seq (.seq (.reg false [⟨(some 21), .none, (.fadr 0 (.t 1)), 0, []⟩, ⟨(some 22), .none, (.load 1 false (.t 21)), 1, []⟩, ⟨(some 23), .none, (.lenS (.t 22)), 2, []⟩, ⟨(some 24), .none, (.mov (.c (.int .i64 0))), 3, []⟩]) (.block 0 (.loop (.seq (.reg false [⟨(some 25), .none, (.bin .lss (.t 24) (.t 23)), 0, []⟩]) (.seq (.cond (.t 25) .skip (.exit 0)) (.seq (.block 1 (.seq (.reg false [⟨(some 26), .none, (.iadr 1 (.t 22) (.t 24)), 0, []⟩, ⟨(some 27), .none, (.load 1 false (.t 26)), 1, []⟩, ⟨(some 5), .none, (.mov (.t 27)), 2, []⟩]) (.reg false [⟨(some 28), .none, (.mov (.t 3)), 0, []⟩, ⟨(some 29), .none, (.mov (.t 5)), 1, []⟩, ⟨(some 30), .none, (.build [(.string ⟨#[]⟩), (.int .i64 0), (.int .i64 0)] [(0, (1, (.t 29))), (1, (1, (.c (.int .i64 (-1))))), (2, (1, (.c (.int .i64 (-1)))))]), 2, []⟩, ⟨(some 31), .none, (.mkV 1 3 [(.string ⟨#[]⟩), (.int .i64 0), (.int .i64 0)] [(0, (.t 30))]), 3, []⟩, ⟨(some 32), .none, (.app 3 32 (.t 28) (.t 31)), 4, []⟩, ⟨(some 3), .none, (.mov (.t 32)), 5, []⟩]))) (.reg false [⟨(some 33), .none, (.bin .add (.t 24) (.c (.int .i64 1))), 0, []⟩, ⟨(some 24), .none, (.mov (.t 33)), 1, []⟩]))))))) (.seq (.seq (.reg false [⟨(some 6), .none, (.mov (.c (.int .i64 (-1)))), 0, []⟩]) (.block 2 (.loop (.seq (.seq (.reg false [⟨(some 34), .none, (.mov (.t 6)), 0, []⟩, ⟨(some 35), .none, (.mov (.t 3)), 1, []⟩, ⟨(some 36), .none, (.lenS (.t 35)), 2, []⟩, ⟨(some 37), .none, (.bin .lss (.t 34) (.t 36)), 3, []⟩]) (.cond (.t 37) .skip (.exit 2))) (.block 3 (.seq (.reg false [⟨(some 38), .none, (.mov (.t 3)), 0, []⟩, ⟨(some 39), .none, (.lenS (.t 38)), 1, []⟩, ⟨(some 6), .none, (.mov (.t 39)), 2, []⟩]) (.seq (.reg false [⟨(some 7), .none, (.mov (.c (.int .i64 0))), 0, []⟩]) (.block 4 (.loop (.seq (.seq (.reg false [⟨(some 40), .none, (.mov (.t 7)), 0, []⟩, ⟨(some 41), .none, (.mov (.t 3)), 1, []⟩, ⟨(some 42), .none, (.lenS (.t 41)), 2, []⟩, ⟨(some 43), .none, (.bin .lss (.t 40) (.t 42)), 3, []⟩]) (.cond (.t 43) .skip (.exit 4))) (.seq (.block 5 (.seq (.reg false [⟨(some 47), .none, (.mov (.t 3)), 0, []⟩, ⟨(some 48), .none, (.mov (.t 7)), 1, []⟩, ⟨(some 49), .none, (.iadr 3 (.t 47) (.t 48)), 2, []⟩, ⟨(some 50), .none, (.fadr 0 (.t 49)), 3, []⟩, ⟨(some 51), .none, (.load 1 false (.t 50)), 4, []⟩, ⟨(some 52), .none, (.call 81 [(.t 51)]), 5, []⟩, ⟨(some 46), .none, (.mov (.t 52)), 6, []⟩, ⟨(some 53), .none, (.ext (.t 46) 0), 7, []⟩, ⟨(some 54), .none, (.ext (.t 46) 1), 8, []⟩, ⟨(some 8), .none, (.mov (.t 53)), 9, []⟩, ⟨(some 9), .none, (.mov (.t 54)), 10, []⟩]) (.seq (.seq (.reg false [⟨(some 55), .none, (.mov (.t 8)), 0, []⟩, ⟨(some 56), .none, (.lenS (.t 55)), 1, []⟩, ⟨(some 57), .none, (.mov (.c (.int .i64 0))), 2, []⟩]) (.block 6 (.loop (.seq (.reg false [⟨(some 58), .none, (.bin .lss (.t 57) (.t 56)), 0, []⟩]) (.seq (.cond (.t 58) .skip (.exit 6)) (.seq (.block 7 (.seq (.reg false [⟨(some 59), .none, (.iadr 1 (.t 55) (.t 57)), 0, []⟩, ⟨(some 60), .none, (.load 1 false (.t 59)), 1, []⟩, ⟨(some 11), .none, (.mov (.t 60)), 2, []⟩]) (.seq (.reg false [⟨(some 61), .none, (.mov (.t 3)), 0, []⟩, ⟨(some 62), .none, (.mov (.t 11)), 1, []⟩, ⟨(some 63), .none, (.call 82 [(.t 61), (.t 62)]), 2, []⟩, ⟨(some 64), .none, (.bin .lss (.t 63) (.c (.int .i64 0))), 3, []⟩]) (.cond (.t 64) (.reg false [⟨(some 65), .none, (.mov (.t 3)), 0, []⟩, ⟨(some 66), .none, (.mov (.t 11)), 1, []⟩, ⟨(some 67), .none, (.mov (.t 7)), 2, []⟩, ⟨(some 68), .none, (.build [(.string ⟨#[]⟩), (.int .i64 0), (.int .i64 0)] [(0, (1, (.t 66))), (1, (1, (.t 67))), (2, (1, (.c (.int .i64 (-1)))))]), 3, []⟩, ⟨(some 69), .none, (.mkV 1 3 [(.string ⟨#[]⟩), (.int .i64 0), (.int .i64 0)] [(0, (.t 68))]), 4, []⟩, ⟨(some 70), .none, (.app 3 32 (.t 65) (.t 69)), 5, []⟩, ⟨(some 3), .none, (.mov (.t 70)), 6, []⟩]) .skip)))) (.reg false [⟨(some 71), .none, (.bin .add (.t 57) (.c (.int .i64 1))), 0, []⟩, ⟨(some 57), .none, (.mov (.t 71)), 1, []⟩]))))))) (.seq (.reg false [⟨(some 73), .none, (.mov (.t 3)), 0, []⟩, ⟨(some 74), .none, (.mov (.t 7)), 1, []⟩, ⟨(some 75), .none, (.iadr 3 (.t 73) (.t 74)), 2, []⟩, ⟨(some 76), .none, (.fadr 0 (.t 75)), 3, []⟩, ⟨(some 77), .none, (.load 1 false (.t 76)), 4, []⟩, ⟨(some 78), .none, (.call 83 [(.t 77)]), 5, []⟩, ⟨(some 72), .none, (.mov (.t 78)), 6, []⟩, ⟨(some 79), .none, (.ext (.t 72) 0), 7, []⟩, ⟨(some 80), .none, (.ext (.t 72) 1), 8, []⟩, ⟨(some 81), .none, (.ext (.t 72) 2), 9, []⟩, ⟨(some 12), .none, (.mov (.t 79)), 10, []⟩, ⟨(some 13), .none, (.mov (.t 80)), 11, []⟩, ⟨(some 14), .none, (.mov (.t 81)), 12, []⟩]) (.seq (.seq (.reg false [⟨(some 82), .none, (.mov (.t 14)), 0, []⟩, ⟨(some 83), .none, (.un .not (.t 82)), 1, []⟩, ⟨(some 84), .none, (.mov (.t 83)), 2, []⟩, ⟨(some 85), (.some (84, false)), (.mov (.t 3)), 3, []⟩, ⟨(some 86), (.some (84, false)), (.mov (.t 13)), 4, []⟩, ⟨(some 87), (.some (84, false)), (.call 82 [(.t 85), (.t 86)]), 5, []⟩, ⟨(some 88), (.some (84, false)), (.bin .geq (.t 87) (.c (.int .i64 0))), 6, []⟩, ⟨(some 89), .none, (.pick (.t 84) (.c (.bool true)) (.t 88)), 7, []⟩]) (.cond (.t 89) (.exit 5) .skip)) (.seq (.reg false [⟨(some 90), .none, (.load 2 true (.t 1)), 0, []⟩, ⟨(some 91), .none, (.mov (.t 3)), 1, []⟩, ⟨(some 92), .none, (.mov (.t 12)), 2, []⟩, ⟨(some 93), .none, (.call 84 [(.t 90), (.t 91), (.t 92)]), 3, []⟩, ⟨(some 15), .none, (.mov (.t 93)), 4, []⟩]) (.seq (.reg false [⟨(some 94), .none, (.mov (.t 15)), 0, []⟩, ⟨(some 95), .none, (.bin .neq (.t 94) (.c (.int .i64 (-1)))), 1, []⟩]) (.cond (.t 95) (.reg false [⟨(some 96), .none, (.mov (.t 3)), 0, []⟩, ⟨(some 97), .none, (.mov (.t 13)), 1, []⟩, ⟨(some 98), .none, (.mov (.t 7)), 2, []⟩, ⟨(some 99), .none, (.mov (.t 15)), 3, []⟩, ⟨(some 100), .none, (.build [(.string ⟨#[]⟩), (.int .i64 0), (.int .i64 0)] [(0, (1, (.t 97))), (1, (1, (.t 98))), (2, (1, (.t 99)))]), 4, []⟩, ⟨(some 101), .none, (.mkV 1 3 [(.string ⟨#[]⟩), (.int .i64 0), (.int .i64 0)] [(0, (.t 100))]), 5, []⟩, ⟨(some 102), .none, (.app 3 32 (.t 96) (.t 101)), 6, []⟩, ⟨(some 3), .none, (.mov (.t 102)), 7, []⟩]) .skip)))))))) (.reg false [⟨(some 44), .none, (.mov (.t 7)), 0, []⟩, ⟨(some 45), .none, (.bin .add (.t 44) (.c (.int .i64 1))), 1, []⟩, ⟨(some 7), .none, (.mov (.t 45)), 2, []⟩])))))))))))) (.seq (.reg false [⟨(some 103), .none, (.mov (.t 3)), 0, []⟩, ⟨(some 2), .none, (.mov (.t 103)), 1, []⟩]) .ret)))))), [(.t 2)]⟩
theorem k44 : EE.fns 44 = some c44 := by kernel_rfl
def c80 : CF := ⟨78, (.seq (.reg false [⟨(some 3), .none, (.boxV (.t 0)), 0, []⟩, ⟨(some 6), .none, (.mov (.c (.slice .none 0 0))), 1, []⟩]) (.seq (.reg false [⟨(some 15), .none, (.mov (.t 1)), 0, []⟩, ⟨(some 16), .none, (.mov (.t 2)), 1, []⟩, ⟨(some 17), .none, (.iadr 3 (.t 15) (.t 16)), 2, []⟩, ⟨(some 18), .none, (.fadr 0 (.t 17)), 3, []⟩, ⟨(some 19), .none, (.load 1 false (.t 18)), 4, []⟩, ⟨(some 7), .none, (.mov (.t 19)), 5, []⟩]) (.seq (.reg false [⟨(some 21), .none, (.mov (.t 7)), 0, []⟩, ⟨(some 22), .none, (.call 93 [(.t 21)]), 1, []⟩, ⟨(some 20), .none, (.mov (.t 22)), 2, []⟩, ⟨(some 23), .none, (.ext (.t 20) 0), 3, []⟩, ⟨(some 24), .none, (.ext (.t 20) 1), 4, []⟩, ⟨(some 8), .none, (.mov (.t 23)), 5, []⟩, ⟨(some 9), .none, (.mov (.t 24)), 6, []⟩]) (.seq (.seq (.reg false [⟨(some 10), .none, (.mov (.c (.int .i64 0))), 0, []⟩]) (.block 0 (.loop (.seq (.seq (.reg false [⟨(some 25), .none, (.mov (.t 10)), 0, []⟩, ⟨(some 26), .none, (.mov (.t 8)), 1, []⟩, ⟨(some 27), .none, (.lenS (.t 26)), 2, []⟩, ⟨(some 28), .none, (.bin .lss (.t 25) (.t 27)), 3, []⟩]) (.cond (.t 28) .skip (.exit 0))) (.seq (.block 1 (.seq (.reg false [⟨(some 31), .none, (.mov (.t 1)), 0, []⟩, ⟨(some 32), .none, (.mov (.t 8)), 1, []⟩, ⟨(some 33), .none, (.mov (.t 10)), 2, []⟩, ⟨(some 34), .none, (.iadr 1 (.t 32) (.t 33)), 3, []⟩, ⟨(some 35), .none, (.load 1 false (.t 34)), 4, []⟩, ⟨(some 36), .none, (.call 116 [(.t 31), (.t 35)]), 5, []⟩, ⟨(some 37), .none, (.bin .lss (.t 36) (.c (.int .i64 0))), 6, []⟩]) (.cond (.t 37) (.reg false [⟨(some 38), .none, (.mov (.t 1)), 0, []⟩, ⟨(some 39), .none, (.mov (.t 8)), 1, []⟩, ⟨(some 40), .none, (.mov (.t 10)), 2, []⟩, ⟨(some 41), .none, (.iadr 1 (.t 39) (.t 40)), 3, []⟩, ⟨(some 42), .none, (.load 1 false (.t 41)), 4, []⟩, ⟨(some 43), .none, (.mov (.t 2)), 5, []⟩, ⟨(some 44), .none, (.build [(.string ⟨#[]⟩), (.int .i64 0), (.int .i64 0)] [(0, (1, (.t 42))), (1, (1, (.t 43))), (2, (1, (.c (.int .i64 (-1)))))]), 6, []⟩, ⟨(some 45), .none, (.mkV 1 3 [(.string ⟨#[]⟩), (.int .i64 0), (.int .i64 0)] [(0, (.t 44))]), 7, []⟩, ⟨(some 46), .none, (.app 3 32 (.t 38) (.t 45)), 8, []⟩, ⟨(some 1), .none, (.mov (.t 46)), 9, []⟩]) .skip))) (.reg false [⟨(some 29), .none, (.mov (.t 10)), 0, []⟩, ⟨(some 30), .none, (.bin .add (.t 29) (.c (.int .i64 1))), 1, []⟩, ⟨(some 10), .none, (.mov (.t 30)), 2, []⟩])))))) (.seq (.reg false [⟨(some 47), .none, (.mov (.t 7)), 0, []⟩, ⟨(some 48), .none, (.call 108 [(.t 47)]), 1, []⟩, ⟨(some 11), .none, (.mov (.t 48)), 2, []⟩]) (.seq (.seq (.reg false [⟨(some 49), .none, (.mov (.t 11)), 0, []⟩, ⟨(some 50), .none, (.bin .eql (.t 49) (.c (.int .i64 0))), 1, []⟩]) (.cond (.t 50) (.seq (.reg false [⟨(some 51), .none, (.mov (.t 1)), 0, []⟩, ⟨(some 6), .none, (.mov (.t 51)), 1, []⟩]) .ret) .skip)) (.seq (.reg false [⟨(some 52), .none, (.load 2 true (.t 3)), 0, []⟩, ⟨(some 53), .none, (.mov (.t 1)), 1, []⟩, ⟨(some 54), .none, (.mov (.t 11)), 2, []⟩, ⟨(some 55), .none, (.call 117 [(.t 52), (.t 53), (.t 54)]), 3, []⟩, ⟨(some 12), .none, (.mov (.t 55)), 4, []⟩]) (.seq (.reg false [⟨(some 57), .none, (.mov (.t 7)), 0, []⟩, ⟨(some 58), .none, (.mov (.t 11)), 1, []⟩, ⟨(some 59), .none, (.call 100 [(.t 57), (.t 58)]), 2, []⟩, ⟨(some 56), .none, (.mov (.t 59)), 3, []⟩, ⟨(some 60), .none, (.ext (.t 56) 0), 4, []⟩, ⟨(some 61), .none, (.ext (.t 56) 1), 5, []⟩, ⟨(some 13), .none, (.mov (.t 60)), 6, []⟩, ⟨(some 14), .none, (.mov (.t 61)), 7, []⟩]) (.seq (.seq (.reg false [⟨(some 62), .none, (.mov (.t 12)), 0, []⟩, ⟨(some 63), .none, (.bin .gtr (.t 62) (.c (.int .i64 (-3)))), 1, []⟩, ⟨(some 64), .none, (.mov (.t 63)), 2, []⟩, ⟨(some 65), (.some (64, true)), (.mov (.t 1)), 3, []⟩, ⟨(some 66), (.some (64, true)), (.mov (.t 13)), 4, []⟩, ⟨(some 67), (.some (64, true)), (.call 116 [(.t 65), (.t 66)]), 5, []⟩, ⟨(some 68), (.some (64, true)), (.bin .lss (.t 67) (.c (.int .i64 0))), 6, []⟩, ⟨(some 69), .none, (.pick (.t 64) (.t 68) (.c (.bool false))), 7, []⟩]) (.cond (.t 69) (.reg false [⟨(some 70), .none, (.mov (.t 1)), 0, []⟩, ⟨(some 71), .none, (.mov (.t 13)), 1, []⟩, ⟨(some 72), .none, (.mov (.t 2)), 2, []⟩, ⟨(some 73), .none, (.mov (.t 12)), 3, []⟩, ⟨(some 74), .none, (.build [(.string ⟨#[]⟩), (.int .i64 0), (.int .i64 0)] [(0, (1, (.t 71))), (1, (1, (.t 72))), (2, (1, (.t 73)))]), 4, []⟩, ⟨(some 75), .none, (.mkV 1 3 [(.string ⟨#[]⟩), (.int .i64 0), (.int .i64 0)] [(0, (.t 74))]), 5, []⟩, ⟨(some 76), .none, (.app 3 32 (.t 70) (.t 75)), 6, []⟩, ⟨(some 1), .none, (.mov (.t 76)), 7, []⟩]) .skip)) (.seq (.reg false [⟨(some 77), .none, (.mov (.t 1)), 0, []⟩, ⟨(some 6), .none, (.mov (.t 77)), 1, []⟩]) .ret)))))))))), [(.t 6)]⟩
theorem k80 : EE.fns 80 = some c80 := by kernel_rfl
end Go.Proofs.Ytpdkgbamakileaa.Ev

/- What is known, and steps: searches; is it right. -/
namespace Go.Proofs.Ytpdkgbamakileaa.Ev
set_option linter.all false
open Go
set_option maxRecDepth 4000

abbrev SlI (H : Hp) (v : Value) (l : List Int) : Prop := Sl (En eI) 1 H v l
theorem Sl.int {H : Hp} {v : Value} {l : List Int} (h : SlI H v l) {i : Nat} {a : Int} (hi : l[i]? = some a) : ∃ id p o, H[id]? = some o ∧ o[p]? = some (.int .i64 a) ∧
    ∀ (s : St) (x y : X), exv s.ρ x = some v → exv s.ρ y = some (.int .i64 i) → iadrK s 1 x y = some (.val (.pointer (some ⟨id, p, some o.length⟩)), s) := by
  obtain ⟨id, p, o, ho, hr, hp, hia⟩ := h.elem hi
  unfold En at hr
  exact ⟨id, p, o, ho, by simpa [eI] using getElem?_of_take hr (j := 0) (by omega), hia⟩
theorem notin_take {α : Type} {l : List α} {i : Nat} {x : α} (hi : i < l.length) (h : x ∉ l.take i) (hx : l[i] ≠ x) : x ∉ l.take (i + 1) := by
  rw [List.take_succ_eq_append_getElem hi]
  simp only [List.mem_append, List.mem_singleton, not_or]
  exact ⟨h, fun e => hx e.symm⟩

open Classical in
noncomputable def memS (a : ByteArray) (l : List ByteArray) : Bool := decide (a ∈ l)
theorem memS_t {a : ByteArray} {l : List ByteArray} : memS a l = true ↔ a ∈ l := by unfold memS; simp
theorem memS_f {a : ByteArray} {l : List ByteArray} : memS a l = false ↔ a ∉ l := by unfold memS; simp
theorem f89 {H : Hp} {v : Value} {l : List ByteArray} {a : ByteArray} (hl : SlS H v l) : Scal EE 89 [v, .string a] H (.bool (memS a l)) := by
  refine scal_ok rfl rfl k89 (by simp [c89]) rfl fun m hw => ?_
  have hroom := hl.room
  simp only [go_sem, ↓reduceIte, Nat.reduceEqDiff, reduceCtorEq, Nat.reduceAdd, Nat.reduceLeDiff, Nat.reduceMul, c89]
  refine go_for l.length (fun i s => s.H = H ∧ s.ρ 0 = .val v ∧ s.ρ 1 = .val (.string a) ∧ s.ρ 5 = .val (.int .i64 i) ∧ a ∉ l.take i) (fun s => s.H = H ∧ a ∉ l) (by simp [upd, ini]) ?_ ?_
  · rintro i s hi ⟨hH, h0, h1, h5, hn⟩
    simp only [go_sem, ↓reduceIte, Nat.reduceEqDiff, reduceCtorEq, Nat.reduceAdd, Nat.reduceLeDiff, Nat.reduceMul, h0, h1, h5, hl.len]
    refine brT.intro (fun q => ?_) (fun q => ?_) <;> simp only [go_sem, ↓reduceIte, Nat.reduceEqDiff, reduceCtorEq, Nat.reduceAdd, Nat.reduceLeDiff, Nat.reduceMul, h0, h1, h5]
    · have h2 : i < l.length := by simpa using q
      obtain ⟨id, p, o, ho, hr, hia⟩ := hl.str (List.getElem?_eq_getElem h2)
      simp only [go_sem, ↓reduceIte, Nat.reduceEqDiff, reduceCtorEq, Nat.reduceAdd, Nat.reduceLeDiff, Nat.reduceMul, h0, h1, h5, hia, hH, ho, hr]
      refine brT.intro (fun h4 => ?_) (fun h4 => ?_) <;> simp only [go_sem, ↓reduceIte, Nat.reduceEqDiff, reduceCtorEq, Nat.reduceAdd, Nat.reduceLeDiff, Nat.reduceMul, h0, h1, h5, wrap64 ((i : Int) + 1) (by omega) (by omega)]
      · have : l[i] = a := of_decide_eq_true h4
        rw [memS_t.2 (by rw [← this]; exact List.getElem_mem h2)]
      · exact ⟨h2, by simp, notin_take h2 hn (of_decide_eq_false h4)⟩
    · have h2 : ¬ i < l.length := by simpa using q
      rw [List.take_of_length_le (by omega)] at hn
      exact ⟨hH, hn⟩
  · rintro s ⟨hH, hn⟩
    rw [memS_f.2 hn]
    simp only [go_sem, ↓reduceIte, Nat.reduceEqDiff, reduceCtorEq, Nat.reduceAdd, Nat.reduceLeDiff, Nat.reduceMul, hH]
theorem f109 {H : Hp} {v : Value} {l : List Int} {a : Int} (hl : SlI H v l) : Scal EE 109 [v, .int .i64 a] H (.bool (decide (a ∈ l))) := by
  refine scal_ok rfl rfl k109 (by simp [c109]) rfl fun m hw => ?_
  have hroom := hl.room
  simp only [go_sem, ↓reduceIte, Nat.reduceEqDiff, reduceCtorEq, Nat.reduceAdd, Nat.reduceLeDiff, Nat.reduceMul, c109]
  refine go_for l.length (fun i s => s.H = H ∧ s.ρ 0 = .val v ∧ s.ρ 1 = .val (.int .i64 a) ∧ s.ρ 5 = .val (.int .i64 i) ∧ a ∉ l.take i) (fun s => s.H = H ∧ a ∉ l) (by simp [upd, ini]) ?_ ?_
  · rintro i s hi ⟨hH, h0, h1, h5, hn⟩
    simp only [go_sem, ↓reduceIte, Nat.reduceEqDiff, reduceCtorEq, Nat.reduceAdd, Nat.reduceLeDiff, Nat.reduceMul, h0, h1, h5, hl.len]
    refine brT.intro (fun q => ?_) (fun q => ?_) <;> simp only [go_sem, ↓reduceIte, Nat.reduceEqDiff, reduceCtorEq, Nat.reduceAdd, Nat.reduceLeDiff, Nat.reduceMul, h0, h1, h5]
    · have h2 : i < l.length := by simpa using q
      obtain ⟨id, p, o, ho, hr, hia⟩ := hl.int (List.getElem?_eq_getElem h2)
      simp only [go_sem, ↓reduceIte, Nat.reduceEqDiff, reduceCtorEq, Nat.reduceAdd, Nat.reduceLeDiff, Nat.reduceMul, h0, h1, h5, hia, hH, ho, hr]
      refine brT.intro (fun h4 => ?_) (fun h4 => ?_) <;> simp only [go_sem, ↓reduceIte, Nat.reduceEqDiff, reduceCtorEq, Nat.reduceAdd, Nat.reduceLeDiff, Nat.reduceMul, h0, h1, h5, wrap64 ((i : Int) + 1) (by omega) (by omega)]
      · have : l[i] = a := of_decide_eq_true h4
        simp [← this]
      · exact ⟨h2, by simp, notin_take h2 hn (of_decide_eq_false h4)⟩
    · have h2 : ¬ i < l.length := by simpa using q
      rw [List.take_of_length_le (by omega)] at hn
      exact ⟨hH, hn⟩
  · rintro s ⟨hH, hn⟩
    simp only [go_sem, ↓reduceIte, Nat.reduceEqDiff, reduceCtorEq, Nat.reduceAdd, Nat.reduceLeDiff, Nat.reduceMul, hH, hn]
theorem f129 {H : Hp} {v : Value} {l : List ByteArray} {a : ByteArray} (hl : SlS H v l) : ScalP EE 129 [v, .string a] H fun r => ∃ n : Int, r = .int .i64 n ∧ (0 ≤ n ↔ a ∈ l) := by
  refine scalP_ok rfl rfl k129 (by simp [c129]) fun m hw => ?_
  have hroom := hl.room
  simp only [go_sem, ↓reduceIte, Nat.reduceEqDiff, reduceCtorEq, Nat.reduceAdd, Nat.reduceLeDiff, Nat.reduceMul, c129, hl.len]
  refine go_for l.length (fun i s => s.H = H ∧ s.ρ 0 = .val v ∧ s.ρ 1 = .val (.string a) ∧ s.ρ 7 = .val (.int .i64 l.length) ∧ s.ρ 8 = .val (.int .i64 i) ∧ a ∉ l.take i) (fun s => s.H = H ∧ a ∉ l) (by simp [upd, ini]) ?_ ?_
  · rintro i s hi ⟨hH, h0, h1, h7, h8, hn⟩
    simp only [go_sem, ↓reduceIte, Nat.reduceEqDiff, reduceCtorEq, Nat.reduceAdd, Nat.reduceLeDiff, Nat.reduceMul, h0, h1, h7, h8]
    refine brT.intro (fun q => ?_) (fun q => ?_) <;> simp only [go_sem, ↓reduceIte, Nat.reduceEqDiff, reduceCtorEq, Nat.reduceAdd, Nat.reduceLeDiff, Nat.reduceMul, h0, h1, h7, h8]
    · have h2 : i < l.length := by simpa using q
      obtain ⟨id, p, o, ho, hr, hia⟩ := hl.str (List.getElem?_eq_getElem h2)
      simp only [go_sem, ↓reduceIte, Nat.reduceEqDiff, reduceCtorEq, Nat.reduceAdd, Nat.reduceLeDiff, Nat.reduceMul, h0, h1, h7, h8, hia, hH, ho, hr]
      refine brT.intro (fun h4 => ?_) (fun h4 => ?_) <;> simp only [go_sem, ↓reduceIte, Nat.reduceEqDiff, reduceCtorEq, Nat.reduceAdd, Nat.reduceLeDiff, Nat.reduceMul, h0, h1, h7, h8, wrap64 ((i : Int) + 1) (by omega) (by omega)]
      · have : a = l[i] := of_decide_eq_true h4
        exact ⟨_, rfl, fun _ => by rw [this]; exact List.getElem_mem h2, fun _ => by omega⟩
      · exact ⟨h2, by simp, notin_take h2 hn (fun e => of_decide_eq_false h4 e.symm)⟩
    · have h2 : ¬ i < l.length := by simpa using q
      rw [List.take_of_length_le (by omega)] at hn
      exact ⟨hH, hn⟩
  · rintro s ⟨hH, hn⟩
    simp only [go_sem, ↓reduceIte, Nat.reduceEqDiff, reduceCtorEq, Nat.reduceAdd, Nat.reduceLeDiff, Nat.reduceMul, hH]
    exact ⟨_, rfl, fun h => by omega, fun h => absurd h hn⟩
theorem f130 {H : Hp} {v : Value} {l : List Int} {a : Int} (hl : SlI H v l) : ScalP EE 130 [v, .int .i64 a] H fun r => ∃ n : Int, r = .int .i64 n ∧ (0 ≤ n ↔ a ∈ l) := by
  refine scalP_ok rfl rfl k130 (by simp [c130]) fun m hw => ?_
  have hroom := hl.room
  simp only [go_sem, ↓reduceIte, Nat.reduceEqDiff, reduceCtorEq, Nat.reduceAdd, Nat.reduceLeDiff, Nat.reduceMul, c130, hl.len]
  refine go_for l.length (fun i s => s.H = H ∧ s.ρ 0 = .val v ∧ s.ρ 1 = .val (.int .i64 a) ∧ s.ρ 7 = .val (.int .i64 l.length) ∧ s.ρ 8 = .val (.int .i64 i) ∧ a ∉ l.take i) (fun s => s.H = H ∧ a ∉ l) (by simp [upd, ini]) ?_ ?_
  · rintro i s hi ⟨hH, h0, h1, h7, h8, hn⟩
    simp only [go_sem, ↓reduceIte, Nat.reduceEqDiff, reduceCtorEq, Nat.reduceAdd, Nat.reduceLeDiff, Nat.reduceMul, h0, h1, h7, h8]
    refine brT.intro (fun q => ?_) (fun q => ?_) <;> simp only [go_sem, ↓reduceIte, Nat.reduceEqDiff, reduceCtorEq, Nat.reduceAdd, Nat.reduceLeDiff, Nat.reduceMul, h0, h1, h7, h8]
    · have h2 : i < l.length := by simpa using q
      obtain ⟨id, p, o, ho, hr, hia⟩ := hl.int (List.getElem?_eq_getElem h2)
      simp only [go_sem, ↓reduceIte, Nat.reduceEqDiff, reduceCtorEq, Nat.reduceAdd, Nat.reduceLeDiff, Nat.reduceMul, h0, h1, h7, h8, hia, hH, ho, hr]
      refine brT.intro (fun h4 => ?_) (fun h4 => ?_) <;> simp only [go_sem, ↓reduceIte, Nat.reduceEqDiff, reduceCtorEq, Nat.reduceAdd, Nat.reduceLeDiff, Nat.reduceMul, h0, h1, h7, h8, wrap64 ((i : Int) + 1) (by omega) (by omega)]
      · have : a = l[i] := of_decide_eq_true h4
        exact ⟨_, rfl, fun _ => by rw [this]; exact List.getElem_mem h2, fun _ => by omega⟩
      · exact ⟨h2, by simp, notin_take h2 hn (fun e => of_decide_eq_false h4 e.symm)⟩
    · have h2 : ¬ i < l.length := by simpa using q
      rw [List.take_of_length_le (by omega)] at hn
      exact ⟨hH, hn⟩
  · rintro s ⟨hH, hn⟩
    simp only [go_sem, ↓reduceIte, Nat.reduceEqDiff, reduceCtorEq, Nat.reduceAdd, Nat.reduceLeDiff, Nat.reduceMul, hH]
    exact ⟨_, rfl, fun h => by omega, fun h => absurd h hn⟩
theorem geq_mem {n : Int} {p : Prop} [Decidable p] (h : 0 ≤ n ↔ p) : decide (n ≥ 0) = decide p := by
  rw [Bool.eq_iff_iff]
  simp only [decide_eq_true_eq]
  exact h
theorem f111 {H : Hp} {v : Value} {l : List ByteArray} {a : ByteArray} (hl : SlS H v l) : Scal EE 111 [v, .string a] H (.bool (memS a l)) := by
  refine scal_ok rfl rfl k111 (by simp [c111]) rfl fun m hw => ?_
  simp only [go_sem, ↓reduceIte, Nat.reduceEqDiff, reduceCtorEq, Nat.reduceAdd, Nat.reduceLeDiff, Nat.reduceMul, c111]
  refine callT_to (fun m' h => f129 (a := a) hl m' h) rfl hw fun r H' ⟨⟨n, e, hn⟩, e2⟩ => ?_
  subst e; subst e2
  have e3 : decide (n ≥ 0) = memS a l := by
    rw [Bool.eq_iff_iff, memS_t, decide_eq_true_eq]
    exact hn
  simp only [go_sem, ↓reduceIte, Nat.reduceEqDiff, reduceCtorEq, Nat.reduceAdd, Nat.reduceLeDiff, Nat.reduceMul, e3]
theorem f113 {H : Hp} {v : Value} {l : List Int} {a : Int} (hl : SlI H v l) : Scal EE 113 [v, .int .i64 a] H (.bool (decide (a ∈ l))) := by
  refine scal_ok rfl rfl k113 (by simp [c113]) rfl fun m hw => ?_
  simp only [go_sem, ↓reduceIte, Nat.reduceEqDiff, reduceCtorEq, Nat.reduceAdd, Nat.reduceLeDiff, Nat.reduceMul, c113]
  refine callT_to (fun m' h => f130 (a := a) hl m' h) rfl hw fun r H' ⟨⟨n, e, hn⟩, e2⟩ => ?_
  subst e; subst e2
  simp only [go_sem, ↓reduceIte, Nat.reduceEqDiff, reduceCtorEq, Nat.reduceAdd, Nat.reduceLeDiff, Nat.reduceMul, geq_mem hn]

def NbrLt (l : List Int) : Prop := ∀ i, i + 1 < l.length → ∀ a b, l[i]? = some a → l[i + 1]? = some b → a < b
open Classical in
noncomputable def nbrB (l : List Int) : Bool := decide (NbrLt l)
theorem nbr_yes {l : List Int} (h : NbrLt l) : nbrB l = true := by unfold nbrB; simp [h]
theorem nbr_no {l : List Int} (h : ¬ NbrLt l) : nbrB l = false := by unfold nbrB; simp [h]
theorem f115 {H : Hp} {v : Value} {l : List Int} (hl : SlI H v l) : Scal EE 115 [v] H (.bool (nbrB l)) := by
  refine scal_ok rfl rfl k115 (by simp [c115]) rfl fun m hw => ?_
  have hroom := hl.room
  simp only [go_sem, ↓reduceIte, Nat.reduceEqDiff, reduceCtorEq, Nat.reduceAdd, Nat.reduceLeDiff, Nat.reduceMul, c115]
  refine go_for l.length (fun i s => s.H = H ∧ s.ρ 0 = .val v ∧ s.ρ 3 = .val (.int .i64 ((i : Int) + 1)) ∧ ∀ j, j < i → ∀ a b, l[j]? = some a → l[j + 1]? = some b → a < b) (fun s => s.H = H ∧ NbrLt l) (by simp [upd, ini]) ?_ ?_
  · rintro i s hi ⟨hH, h0, h3, hn⟩
    simp only [go_sem, ↓reduceIte, Nat.reduceEqDiff, reduceCtorEq, Nat.reduceAdd, Nat.reduceLeDiff, Nat.reduceMul, h0, h3, hl.len]
    refine brT.intro (fun q => ?_) (fun q => ?_)
    · have h2 : i + 1 < l.length := by have := of_decide_eq_true q; omega
      obtain ⟨id, p, o, ho, hr, hia⟩ := hl.int (List.getElem?_eq_getElem (show i < l.length by omega))
      obtain ⟨id2, p2, o2, ho2, hr2, hia2⟩ := hl.int (List.getElem?_eq_getElem h2)
      have e1 : ((i + 1 : Nat) : Int) = (i : Int) + 1 := by omega
      rw [e1] at hia2
      have w0 : IntKind.i64.wrap ((i : Int) + 1 - 1) = (i : Int) := by rw [wrap64 _ (by omega) (by omega)]; omega
      simp only [go_sem, ↓reduceIte, Nat.reduceEqDiff, reduceCtorEq, Nat.reduceAdd, Nat.reduceLeDiff, Nat.reduceMul]
      refine go_draw ?_
      simp only [go_sem, ↓reduceIte, Nat.reduceEqDiff, reduceCtorEq, Nat.reduceAdd, Nat.reduceLeDiff, Nat.reduceMul, h0, h3, w0, hia, hia2, hH, ho, hr, ho2, hr2]
      refine ⟨by rfl, ?_⟩
      refine brT.intro (fun h4 => ?_) (fun h4 => ?_) <;> simp only [go_sem, ↓reduceIte, Nat.reduceEqDiff, reduceCtorEq, Nat.reduceAdd, Nat.reduceLeDiff, Nat.reduceMul, h0, h3, wrap64 ((i : Int) + 1 + 1) (by omega) (by omega)]
      · have h5 := of_decide_eq_true h4
        rw [nbr_no (fun h => by have := h i h2 _ _ (List.getElem?_eq_getElem (show i < l.length by omega)) (List.getElem?_eq_getElem h2); omega)]
      · have h5 := of_decide_eq_false h4
        refine ⟨by omega, by simp, fun j hj a b ha hb => ?_⟩
        by_cases e : j = i
        · subst e
          rw [List.getElem?_eq_getElem (by omega)] at ha hb
          cases ha; cases hb
          omega
        · exact hn j (by omega) a b ha hb
    · simp only [go_sem, ↓reduceIte, Nat.reduceEqDiff, reduceCtorEq, Nat.reduceAdd, Nat.reduceLeDiff, Nat.reduceMul]
      exact ⟨hH, fun j hj => hn j (by have := of_decide_eq_false q; omega)⟩
  · rintro s ⟨hH, hn⟩
    rw [nbr_yes hn]
    simp only [go_sem, ↓reduceIte, Nat.reduceEqDiff, reduceCtorEq, Nat.reduceAdd, Nat.reduceLeDiff, Nat.reduceMul, hH]

/-- Is what is known right? -/
def KnOk (kt : List ByteArray) (kk : List Int) : Prop := kt.length ≤ 60 ∧ kk.length ≤ 40 ∧ (∀ i, i < kt.length → ∀ a, kt[i]? = some a → tOk a = true ∧ a ∉ kt.take i) ∧ (∀ x ∈ kk, isKey x = true) ∧ NbrLt kk
open Classical in
noncomputable def knB (kt : List ByteArray) (kk : List Int) : Bool := decide (KnOk kt kk)
theorem kn_t {kt : List ByteArray} {kk : List Int} : knB kt kk = true ↔ KnOk kt kk := by unfold knB; simp
theorem kn_no {kt : List ByteArray} {kk : List Int} (h : ¬ KnOk kt kk) : knB kt kk = false := by unfold knB; simp [h]

theorem f77 {H : Hp} {vt vk : Value} {kt : List ByteArray} {kk : List Int} (ht : SlS H vt kt) (hk : SlI H vk kk) (hz : ∀ x ∈ kt, x.size ≤ 4611686018427387904) : Scal EE 77 [.agg #[vt, vk]] H (.bool (knB kt kk)) := by
  refine scal_ok rfl rfl k77 (by simp [c77]) rfl fun m hw => ?_
  have hr1 := ht.room
  have hr2 := hk.room
  simp only [go_sem, ↓reduceIte, Nat.reduceEqDiff, reduceCtorEq, Nat.reduceAdd, Nat.reduceLeDiff, Nat.reduceMul, c77, ht.vc, hk.vc, ht.len]
  refine go_for kt.length (fun i s => s.H = H ∧ s.ρ 1 = .bx 0 [vt, vk] ∧ s.ρ 8 = .val vt ∧ s.ρ 9 = .val (.int .i64 kt.length) ∧ s.ρ 10 = .val (.int .i64 i) ∧ ∀ j, j < i → ∀ a, kt[j]? = some a → tOk a = true ∧ a ∉ kt.take j)
    (fun s => s.H = H ∧ s.ρ 1 = .bx 0 [vt, vk] ∧ ∀ i, i < kt.length → ∀ a, kt[i]? = some a → tOk a = true ∧ a ∉ kt.take i) (by simp [upd, ini]) ?_ ?_
  · rintro i s hi ⟨hH, k1, k8, k9, k10, hn⟩
    simp only [go_sem, ↓reduceIte, Nat.reduceEqDiff, reduceCtorEq, Nat.reduceAdd, Nat.reduceLeDiff, Nat.reduceMul, k1, k8, k9, k10]
    refine brT.intro (fun q => ?_) (fun q => ?_) <;> simp only [go_sem, ↓reduceIte, Nat.reduceEqDiff, reduceCtorEq, Nat.reduceAdd, Nat.reduceLeDiff, Nat.reduceMul, k1, k8, k9, k10]
    · have hil : i < kt.length := by have := of_decide_eq_true q; omega
      obtain ⟨id, p, o, ho, hr, hia⟩ := ht.str (List.getElem?_eq_getElem hil)
      have a96 := fun {m draw t d ts Q} => callT_at (m := m) (draw := draw) (s := t) (d := d) (ts := ts) (Q := Q) (f96 (H := H) (s := kt[i]) (hz _ (List.getElem_mem hil)))
      obtain ⟨v', hv', hsl⟩ := ht.take (i := i) (by omega)
      have a111 := fun {m draw t d ts Q} => callT_at (m := m) (draw := draw) (s := t) (d := d) (ts := ts) (Q := Q) (f111 (a := kt[i]) hv')
      have no : ¬ (tOk kt[i] = true ∧ kt[i] ∉ kt.take i) → knB kt kk = false := fun h => kn_no fun h2 => h (h2.2.2.1 i hil _ (List.getElem?_eq_getElem hil))
      simp only [go_sem, ↓reduceIte, Nat.reduceEqDiff, reduceCtorEq, Nat.reduceAdd, Nat.reduceLeDiff, Nat.reduceMul, k1, k8, k9, k10, hia, hH, ho, hr, a96, hw]
      cases q2 : tOk kt[i] <;> simp only [go_sem, ↓reduceIte, Nat.reduceEqDiff, reduceCtorEq, Nat.reduceAdd, Nat.reduceLeDiff, Nat.reduceMul, k1, k8, k9, k10, ht.vc, hsl, a111, hw, hH]
      · rw [no (fun h => by rw [q2] at h; exact absurd h.1 (by decide))]
      · cases q3 : memS kt[i] (kt.take i) <;> simp only [go_sem, ↓reduceIte, Nat.reduceEqDiff, reduceCtorEq, Nat.reduceAdd, Nat.reduceLeDiff, Nat.reduceMul, k1, k8, k9, k10, wrap64 ((i : Int) + 1) (by omega) (by omega)]
        · refine ⟨hil, by simp, fun j hj a ha => ?_⟩
          by_cases e : j = i
          · subst e
            rw [List.getElem?_eq_getElem hil] at ha
            cases ha
            exact ⟨q2, memS_f.1 q3⟩
          · exact hn j (by omega) a ha
        · rw [no (fun h => h.2 (memS_t.1 q3))]
    · exact ⟨hH, fun j hj => hn j (by have := of_decide_eq_false q; omega)⟩
  · rintro s ⟨hH, k1, hall⟩
    simp only [go_sem, ↓reduceIte, Nat.reduceEqDiff, reduceCtorEq, Nat.reduceAdd, Nat.reduceLeDiff, Nat.reduceMul, k1, ht.vc, hk.vc, hk.len]
    refine go_for kk.length (fun i s => s.H = H ∧ s.ρ 1 = .bx 0 [vt, vk] ∧ s.ρ 28 = .val vk ∧ s.ρ 29 = .val (.int .i64 kk.length) ∧ s.ρ 30 = .val (.int .i64 i) ∧ ∀ x ∈ kk.take i, isKey x = true)
      (fun s => s.H = H ∧ s.ρ 1 = .bx 0 [vt, vk] ∧ ∀ x ∈ kk, isKey x = true) ?_ ?_ ?_
    · exact ⟨hH, by simp [upd, k1], by simp [upd], by simp [upd], by simp [upd], by simp⟩
    · rintro i s hi ⟨hH, k1, k28, k29, k30, hn⟩
      simp only [go_sem, ↓reduceIte, Nat.reduceEqDiff, reduceCtorEq, Nat.reduceAdd, Nat.reduceLeDiff, Nat.reduceMul, k1, k28, k29, k30]
      refine brT.intro (fun q => ?_) (fun q => ?_) <;> simp only [go_sem, ↓reduceIte, Nat.reduceEqDiff, reduceCtorEq, Nat.reduceAdd, Nat.reduceLeDiff, Nat.reduceMul, k1, k28, k29, k30]
      · have hil : i < kk.length := by have := of_decide_eq_true q; omega
        obtain ⟨id, p, o, ho, hr, hia⟩ := hk.int (List.getElem?_eq_getElem hil)
        have a97 := fun {m draw t d ts Q} => callT_at (m := m) (draw := draw) (s := t) (d := d) (ts := ts) (Q := Q) (f97 (H := H) (a := kk[i]))
        simp only [go_sem, ↓reduceIte, Nat.reduceEqDiff, reduceCtorEq, Nat.reduceAdd, Nat.reduceLeDiff, Nat.reduceMul, k1, k28, k29, k30, hia, hH, ho, hr, a97, hw]
        refine brT.intro (fun q2 => ?_) (fun q2 => ?_) <;> simp only [go_sem, ↓reduceIte, Nat.reduceEqDiff, reduceCtorEq, Nat.reduceAdd, Nat.reduceLeDiff, Nat.reduceMul, k1, k28, k29, k30, wrap64 ((i : Int) + 1) (by omega) (by omega)]
        · refine ⟨hil, by simp, fun x hx => ?_⟩
          rw [List.take_succ_eq_append_getElem hil] at hx
          rcases List.mem_append.1 hx with h | h
          · exact hn x h
          · rw [List.mem_singleton] at h; subst h; exact q2
        · rw [kn_no (fun h2 => by rw [h2.2.2.2.1 _ (List.getElem_mem hil)] at q2; cases q2)]
      · have : i = kk.length := by have := of_decide_eq_false q; omega
        subst this
        rw [List.take_length] at hn
        exact ⟨hH, hn⟩
    · rintro s ⟨hH, k1, hkey⟩
      have a115 := fun {m draw t d ts Q} => callT_at (m := m) (draw := draw) (s := t) (d := d) (ts := ts) (Q := Q) (f115 hk)
      simp only [go_sem, ↓reduceIte, Nat.reduceEqDiff, reduceCtorEq, Nat.reduceAdd, Nat.reduceLeDiff, Nat.reduceMul, k1, ht.vc, hk.vc, ht.len, hk.len]
      cases q1 : decide ((kt.length : Int) ≤ 60) <;> simp only [go_sem, ↓reduceIte, Nat.reduceEqDiff, reduceCtorEq, Nat.reduceAdd, Nat.reduceLeDiff, Nat.reduceMul, k1, ht.vc, hk.vc, hk.len, q1, hH]
      · rw [kn_no (fun h => by have := of_decide_eq_false q1; have := h.1; omega)]
      have q1' := of_decide_eq_true q1
      cases q2 : decide ((kk.length : Int) ≤ 40) <;> simp only [go_sem, ↓reduceIte, Nat.reduceEqDiff, reduceCtorEq, Nat.reduceAdd, Nat.reduceLeDiff, Nat.reduceMul, k1, ht.vc, hk.vc, hk.len, q2, a115, hw]
      · rw [kn_no (fun h => by have := of_decide_eq_false q2; have := h.2.1; omega)]
      have q2' := of_decide_eq_true q2
      by_cases hr : NbrLt kk
      · rw [nbr_yes hr, kn_t.2 ⟨by omega, by omega, hall, hkey, hr⟩]
      · rw [nbr_no hr, kn_no (fun h => hr h.2.2.2.2)]

theorem f49 {H : Hp} {vt vk : Value} {kt : List ByteArray} {kk : List Int} (ht : SlS H vt kt) (hk : SlI H vk kk) (hz : ∀ x ∈ kt, x.size ≤ 4611686018427387904) : Scal EE 49 [.agg #[vt, vk]] H (.bool (knB kt kk)) := by
  refine scal_ok rfl rfl k49 (by simp [c49]) rfl fun m hw => ?_
  have hr1 := ht.room
  have hr2 := hk.room
  simp only [go_sem, ↓reduceIte, Nat.reduceEqDiff, reduceCtorEq, Nat.reduceAdd, Nat.reduceLeDiff, Nat.reduceMul, c49, ht.vc, hk.vc, ht.len]
  cases q1 : decide ((kt.length : Int) > 60) <;> simp only [go_sem, ↓reduceIte, Nat.reduceEqDiff, reduceCtorEq, Nat.reduceAdd, Nat.reduceLeDiff, Nat.reduceMul, ht.vc, hk.vc, hk.len, q1]
  rotate_left
  · rw [kn_no (fun h => by have := of_decide_eq_true q1; have := h.1; omega)]
  cases q2 : decide ((kk.length : Int) > 40) <;> simp only [go_sem, ↓reduceIte, Nat.reduceEqDiff, reduceCtorEq, Nat.reduceAdd, Nat.reduceLeDiff, Nat.reduceMul, ht.vc, hk.vc, hk.len, q2]
  rotate_left
  · rw [kn_no (fun h => by have := of_decide_eq_true q2; have := h.2.1; omega)]
  have q1' := of_decide_eq_false q1
  have q2' := of_decide_eq_false q2
  refine go_for kt.length (fun i s => s.H = H ∧ s.ρ 1 = .bx 0 [vt, vk] ∧ s.ρ 3 = .val (.int .i64 i) ∧ ∀ j, j < i → ∀ a, kt[j]? = some a → tOk a = true ∧ a ∉ kt.take j)
    (fun s => s.H = H ∧ s.ρ 1 = .bx 0 [vt, vk] ∧ ∀ i, i < kt.length → ∀ a, kt[i]? = some a → tOk a = true ∧ a ∉ kt.take i) (by simp [upd, ini]) ?_ ?_
  · rintro i s hi ⟨hH, k1, k3, hn⟩
    simp only [go_sem, ↓reduceIte, Nat.reduceEqDiff, reduceCtorEq, Nat.reduceAdd, Nat.reduceLeDiff, Nat.reduceMul, k1, k3, ht.vc, ht.len]
    refine brT.intro (fun q => ?_) (fun q => ?_)
    rotate_left
    · simp only [go_sem, ↓reduceIte, Nat.reduceEqDiff, reduceCtorEq, Nat.reduceAdd, Nat.reduceLeDiff, Nat.reduceMul, k1]
      exact ⟨hH, fun j hj => hn j (by have := of_decide_eq_false q; omega)⟩
    have hil : i < kt.length := by have := of_decide_eq_true q; omega
    obtain ⟨id, p, o, ho, hr, hia⟩ := ht.str (List.getElem?_eq_getElem hil)
    have a88 := fun {m draw t d ts Q} => callT_at (m := m) (draw := draw) (s := t) (d := d) (ts := ts) (Q := Q) (f88 (H := H) (s := kt[i]) (hz _ (List.getElem_mem hil)))
    obtain ⟨v', hv', hsl⟩ := ht.take (i := i) (by omega)
    have a89 := fun {m draw t d ts Q} => callT_at (m := m) (draw := draw) (s := t) (d := d) (ts := ts) (Q := Q) (f89 (a := kt[i]) hv')
    have no : ¬ (tOk kt[i] = true ∧ kt[i] ∉ kt.take i) → knB kt kk = false := fun h => kn_no fun h2 => h (h2.2.2.1 i hil _ (List.getElem?_eq_getElem hil))
    simp only [go_sem, ↓reduceIte, Nat.reduceEqDiff, reduceCtorEq, Nat.reduceAdd, Nat.reduceLeDiff, Nat.reduceMul]
    refine go_draw ?_
    simp only [go_sem, ↓reduceIte, Nat.reduceEqDiff, reduceCtorEq, Nat.reduceAdd, Nat.reduceLeDiff, Nat.reduceMul, k1, k3, ht.vc, hia, hH, ho, hr, a88, hw]
    cases q2 : tOk kt[i] <;> simp only [go_sem, ↓reduceIte, Nat.reduceEqDiff, reduceCtorEq, Nat.reduceAdd, Nat.reduceLeDiff, Nat.reduceMul, k1, k3, ht.vc, hsl, a89, hw, hH, hia, ho, hr]
    · refine ⟨by rfl, ?_⟩
      rw [no (fun h => by rw [q2] at h; exact absurd h.1 (by decide))]
    · refine ⟨by rfl, ?_⟩
      cases q3 : memS kt[i] (kt.take i) <;> simp only [go_sem, ↓reduceIte, Nat.reduceEqDiff, reduceCtorEq, Nat.reduceAdd, Nat.reduceLeDiff, Nat.reduceMul, k1, k3, wrap64 ((i : Int) + 1) (by omega) (by omega)]
      · refine ⟨hil, by simp, fun j hj a ha => ?_⟩
        by_cases e : j = i
        · subst e
          rw [List.getElem?_eq_getElem hil] at ha
          cases ha
          exact ⟨q2, memS_f.1 q3⟩
        · exact hn j (by omega) a ha
      · rw [no (fun h => h.2 (memS_t.1 q3))]
  · rintro s ⟨hH, k1, hall⟩
    simp only [go_sem, ↓reduceIte, Nat.reduceEqDiff, reduceCtorEq, Nat.reduceAdd, Nat.reduceLeDiff, Nat.reduceMul, k1]
    refine go_for kk.length (fun i s => s.H = H ∧ s.ρ 1 = .bx 0 [vt, vk] ∧ s.ρ 4 = .val (.int .i64 i) ∧ (∀ x ∈ kk.take i, isKey x = true) ∧ ∀ j, j + 1 < i → ∀ a b, kk[j]? = some a → kk[j + 1]? = some b → a < b)
      (fun s => s.H = H ∧ (∀ x ∈ kk, isKey x = true) ∧ NbrLt kk) ?_ ?_ ?_
    · exact ⟨hH, by simp [upd, k1], by simp [upd], by simp, fun j hj => by omega⟩
    · rintro i s hi ⟨hH, k1, k4, hn, hlt⟩
      simp only [go_sem, ↓reduceIte, Nat.reduceEqDiff, reduceCtorEq, Nat.reduceAdd, Nat.reduceLeDiff, Nat.reduceMul, k1, k4, hk.vc, hk.len]
      refine brT.intro (fun q => ?_) (fun q => ?_)
      rotate_left
      · simp only [go_sem, ↓reduceIte, Nat.reduceEqDiff, reduceCtorEq, Nat.reduceAdd, Nat.reduceLeDiff, Nat.reduceMul, k1]
        have : i = kk.length := by have := of_decide_eq_false q; omega
        subst this
        rw [List.take_length] at hn
        exact ⟨hH, hn, hlt⟩
      have hil : i < kk.length := by have := of_decide_eq_true q; omega
      obtain ⟨id, p, o, ho, hr, hia⟩ := hk.int (List.getElem?_eq_getElem hil)
      have hin : (decide (kk[i] ≥ 1) && decide (kk[i] ≤ 1000000)) = isKey kk[i] := rfl
      simp only [go_sem, ↓reduceIte, Nat.reduceEqDiff, reduceCtorEq, Nat.reduceAdd, Nat.reduceLeDiff, Nat.reduceMul]
      refine go_draw ?_
      simp only [go_sem, ↓reduceIte, Nat.reduceEqDiff, reduceCtorEq, Nat.reduceAdd, Nat.reduceLeDiff, Nat.reduceMul, k1, k4, hk.vc, hia, hH, ho, hr, c90', hw, hin]
      have step : isKey kk[i] = true → (∀ h : 0 < i, kk[i - 1]'(by omega) < kk[i]) → (∀ x ∈ kk.take (i + 1), isKey x = true) ∧ ∀ j, j + 1 < i + 1 → ∀ a b, kk[j]? = some a → kk[j + 1]? = some b → a < b := fun h1 h2 => ⟨fun x hx => by
          rw [List.take_succ_eq_append_getElem hil] at hx
          rcases List.mem_append.1 hx with h | h
          · exact hn x h
          · rw [List.mem_singleton] at h; subst h; exact h1, fun j hj a b ha hb => by
          by_cases e : j + 1 = i
          · subst e
            rw [List.getElem?_eq_getElem (by omega)] at ha hb
            cases ha; cases hb
            exact h2 (by omega)
          · exact hlt j (by omega) a b ha hb⟩
      cases q2 : isKey kk[i] <;> simp only [go_sem, ↓reduceIte, Nat.reduceEqDiff, reduceCtorEq, Nat.reduceAdd, Nat.reduceLeDiff, Nat.reduceMul, k1, k4, hk.vc]
      · refine ⟨by rfl, ?_⟩
        rw [kn_no (fun h2 => by rw [h2.2.2.2.1 _ (List.getElem_mem hil)] at q2; cases q2)]
      cases q3 : decide ((i : Int) > 0) <;> simp only [go_sem, ↓reduceIte, Nat.reduceEqDiff, reduceCtorEq, Nat.reduceAdd, Nat.reduceLeDiff, Nat.reduceMul, k1, k4, hk.vc]
      · refine ⟨by rfl, ?_⟩
        simp only [go_sem, ↓reduceIte, Nat.reduceEqDiff, reduceCtorEq, Nat.reduceAdd, Nat.reduceLeDiff, Nat.reduceMul, k1, k4, wrap64 ((i : Int) + 1) (by omega) (by omega)]
        have := of_decide_eq_false q3
        exact ⟨hil, by simp, step q2 (fun h => by omega)⟩
      · have h0 : 0 < i := by have := of_decide_eq_true q3; omega
        obtain ⟨id2, p2, o2, ho2, hr2, hia2⟩ := hk.int (List.getElem?_eq_getElem (show i - 1 < kk.length by omega))
        have e1 : ((i - 1 : Nat) : Int) = (i : Int) - 1 := by omega
        rw [e1] at hia2
        simp only [go_sem, ↓reduceIte, Nat.reduceEqDiff, reduceCtorEq, Nat.reduceAdd, Nat.reduceLeDiff, Nat.reduceMul, k1, k4, hk.vc, hia, hia2, hH, ho, hr, ho2, hr2, wrap64 ((i : Int) - 1) (by omega) (by omega)]
        refine ⟨by rfl, ?_⟩
        refine brT.intro (fun h4 => ?_) (fun h4 => ?_) <;> simp only [go_sem, ↓reduceIte, Nat.reduceEqDiff, reduceCtorEq, Nat.reduceAdd, Nat.reduceLeDiff, Nat.reduceMul, k1, k4, wrap64 ((i : Int) + 1) (by omega) (by omega)]
        · have h5 := of_decide_eq_true h4
          rw [kn_no (fun h2 => by
            have := h2.2.2.2.2 (i - 1) (by omega) kk[i - 1] kk[i] (List.getElem?_eq_getElem (show i - 1 < kk.length by omega)) (by rw [show i - 1 + 1 = i by omega]; exact List.getElem?_eq_getElem hil)
            omega)]
        · have h5 := of_decide_eq_false h4
          exact ⟨hil, by simp, step q2 (fun h => by omega)⟩
    · rintro s ⟨hH, hkey, hr⟩
      rw [kn_t.2 ⟨by omega, by omega, hall, hkey, hr⟩]
      simp only [go_sem, ↓reduceIte, Nat.reduceEqDiff, reduceCtorEq, Nat.reduceAdd, Nat.reduceLeDiff, Nat.reduceMul, hH]
end Go.Proofs.Ytpdkgbamakileaa.Ev

/- Is a step as said: both ways. -/
namespace Go.Proofs.Ytpdkgbamakileaa.Ev
set_option linter.all false
open Go
set_option maxRecDepth 4000

/-- Term, out of which step, with which. -/
abbrev Wy := ByteArray × Int × Int
def eWy (w : Wy) : List Value := [.string w.1, .int .i64 w.2.1, .int .i64 w.2.2]
def vWy (w : Wy) : Value := .agg #[.string w.1, .int .i64 w.2.1, .int .i64 w.2.2]
abbrev SlWy (H : Hp) (v : Value) (l : List Wy) : Prop := Sl (En eWy) 3 H v l
noncomputable def inS (t : ByteArray) : ByteArray := rest t (1 + (rdV (rest t 1)).2)
noncomputable def lkS (t : ByteArray) : Int := ((rdV (rest t 1)).1 : Nat)
noncomputable def keyB (n : Int) : ByteArray := okB ((⟨#[107]⟩ : ByteArray) ++ varB n)

/-- The term of a key is just that. -/
theorem keyB_ok {n : Int} (h : isKey n = true) : tOk (keyB n) = true ∧ keyB n = (⟨#[107]⟩ : ByteArray) ++ varB n ∧ (keyB n)[0]? = some 107 ∧ lkS (keyB n) = n := by
  simp only [isKey, Bool.and_eq_true, decide_eq_true_eq] at h
  have hn : ((n.toNat : Nat) : Int) = n := Int.toNat_of_nonneg (by omega)
  have hr : rdV (varB n) = (n.toNat, (varL n.toNat).length) := by
    have := read_var (n := n.toNat) (x := ByteArray.empty) (by omega)
    rw [hn] at this
    simpa using this
  have hV : (varB n).size = (varL n.toNat).length := by unfold varB; rw [if_pos (by omega), strOf_size]
  have hp := varL_pos n.toNat
  have h7 := varB_size n
  have h1 : ((⟨#[107]⟩ : ByteArray) ++ varB n)[0]? = some 107 := ch_get 107 _
  have hrest : rest ((⟨#[107]⟩ : ByteArray) ++ varB n) 1 = varB n := rest_one 107 _
  have hsz : ((⟨#[107]⟩ : ByteArray) ++ varB n).size = 1 + (varB n).size := by rw [app_size, sz1]
  have hT : tOk ((⟨#[107]⟩ : ByteArray) ++ varB n) = true := by
    rw [tOk_t]
    refine ⟨by omega, by omega, ?_⟩
    show tmStep _ _ 0 = _
    unfold tmStep
    rw [h1]
    simp only [Nat.zero_add]
    rw [hrest, hr, if_neg (by simp only; omega), if_neg (by decide), if_pos trivial, if_pos ⟨by simp only; omega, by simp only; omega⟩, hsz, hV]
  have hk : keyB n = (⟨#[107]⟩ : ByteArray) ++ varB n := by unfold keyB okB; rw [if_pos hT]
  rw [hk]
  refine ⟨hT, rfl, h1, ?_⟩
  unfold lkS
  rw [hrest, hr]
  exact hn
theorem key_of {s : ByteArray} (h : isB s 107 = true) : isKey (lkS s) = true ∧ s = keyB (lkS s) := by
  obtain ⟨ht, hc⟩ := isB_t.1 h
  obtain ⟨h1, h2, h3⟩ := tOk_t.1 ht
  have h3 : tmStep s (tmE s 7) 0 = some s.size := h3
  unfold tmStep at h3
  rw [hc] at h3
  simp only [Nat.zero_add] at h3
  split at h3
  · cases h3
  · rename_i hk0
    rw [if_neg (by decide), if_pos trivial] at h3
    split at h3
    · rename_i hin
      have hin' : isKey (lkS s) = true := by
        have hb : (1 : Int) ≤ lkS s ∧ lkS s ≤ 1000000 := by unfold lkS; omega
        unfold isKey
        simp only [Bool.and_eq_true, decide_eq_true_eq]
        exact ⟨hb.1, hb.2⟩
      refine ⟨hin', ?_⟩
      rw [(keyB_ok hin').2.1]
      have hsz := Option.some.inj h3
      rcases rdV_cases (rest s 1) with he | ⟨n, k, he, hv⟩
      · rw [he] at hk0; exact absurd rfl hk0
      · have hl : lkS s = (n : Int) := by unfold lkS; rw [he]
        rw [he] at hsz
        obtain ⟨_, _, h6, h7, h8⟩ := hv
        unfold isV at h8
        rw [← h7] at h8
        rw [hl, h8]
        have hk : k = (rest s 1).size := by rw [rest_size]; simp only at hsz; omega
        rw [hk]
        have e1 : (rest s 1).extract 0 (rest s 1).size = rest s 1 := ByteArray.extract_zero_size
        rw [e1]
        refine ByteArray.ext (Array.ext_getElem? fun i => ?_)
        show s[i]? = ((⟨#[107]⟩ : ByteArray) ++ rest s 1)[i]?
        cases i with
        | zero => rw [hc]; exact (ch_get 107 _).symm
        | succ i =>
          have e2 : ((⟨#[107]⟩ : ByteArray) ++ rest s 1)[i + 1]? = (rest s 1)[i]? := by
            have := cat_right (a := (⟨#[107]⟩ : ByteArray)) (b := rest s 1) (i := i)
            rw [show (⟨#[107]⟩ : ByteArray).size + i = i + 1 by rw [sz1]; omega] at this
            exact this
          rw [e2]
          unfold rest
          show s.data[i + 1]? = (s.extract 1 s.size).data[i]?
          rw [ByteArray.data_extract, Array.getElem?_extract]
          have hds : s.size = s.data.size := rfl
          split
          · congr 1; omega
          · rename_i hlt
            rw [Array.getElem?_eq_none (by omega)]
    · cases h3
/-- A term is a key's just when it is read as that key. -/
theorem key_iff {s : ByteArray} {n : Int} (hn : isKey n = true) : s = keyB n ↔ isB s 107 = true ∧ lkS s = n := by
  constructor
  · rintro rfl
    have h := keyB_ok hn
    exact ⟨isB_t.2 ⟨h.1, h.2.2.1⟩, h.2.2.2⟩
  · rintro ⟨h1, rfl⟩
    exact (key_of h1).2
theorem lock_key {t : ByteArray} (h : isB t 115 = true) : isKey (lkS t) = true := by
  obtain ⟨ht, hc⟩ := isB_t.1 h
  obtain ⟨h1, h2, h3⟩ := tOk_t.1 ht
  have h3 : tmStep t (tmE t 7) 0 = some t.size := h3
  unfold tmStep at h3
  rw [hc] at h3
  simp only [Nat.zero_add] at h3
  split at h3
  · cases h3
  · rw [if_neg (by decide), if_neg (by decide), if_neg (by decide), if_pos trivial] at h3
    split at h3
    · rename_i hin
      have hb : (1 : Int) ≤ lkS t ∧ lkS t ≤ 1000000 := by unfold lkS; omega
      unfold isKey
      simp only [Bool.and_eq_true, decide_eq_true_eq]
      exact ⟨hb.1, hb.2⟩
    · cases h3

def WyOk (kt : List ByteArray) (kk : List Int) (l : List Wy) (i : Nat) (w : Wy) : Prop :=
  (w.2.1 = -1 ∧ w.2.2 = -1 ∧ w.1 ∈ kt) ∨
  (0 ≤ w.2.1 ∧ w.2.1 < i ∧ ∀ u, l[w.2.1.toNat]? = some u →
    ((isB u.1 108 = true ∧ w.2.2 = -1 ∧ w.1 ∈ (partsB u.1).getD []) ∨
     (isB u.1 115 = true ∧ inS u.1 = w.1 ∧ ((w.2.2 = -2 ∧ lkS u.1 ∈ kk) ∨ (0 ≤ w.2.2 ∧ w.2.2 < i ∧ ∀ x, l[w.2.2.toNat]? = some x → x.1 = keyB (lkS u.1))))))
open Classical in
noncomputable def wyB (kt : List ByteArray) (kk : List Int) (l : List Wy) (i : Nat) : Bool := decide (∀ w, l[i]? = some w → WyOk kt kk l i w)
theorem wy_t {kt : List ByteArray} {kk : List Int} {l : List Wy} {i : Nat} : wyB kt kk l i = true ↔ ∀ w, l[i]? = some w → WyOk kt kk l i w := by unfold wyB; simp
theorem wy_yes {kt : List ByteArray} {kk : List Int} {l : List Wy} {i : Nat} {w : Wy} (hi : l[i]? = some w) (h : WyOk kt kk l i w) : wyB kt kk l i = true := by
  rw [wy_t]
  intro w' hw'
  rw [hi] at hw'
  cases hw'
  exact h
theorem wy_no {kt : List ByteArray} {kk : List Int} {l : List Wy} {i : Nat} {w : Wy} (hi : l[i]? = some w) (h : ¬ WyOk kt kk l i w) : wyB kt kk l i = false := by
  cases h2 : wyB kt kk l i with
  | false => rfl
  | true => exact absurd (wy_t.1 h2 w hi) h
theorem isB_ne {s : ByteArray} {a b : UInt8} (h : isB s a = true) (hab : a ≠ b) : isB s b = false := by
  cases h2 : isB s b with
  | false => rfl
  | true =>
    have h3 := (isB_t.1 h).2
    rw [(isB_t.1 h2).2] at h3
    exact absurd (Option.some.inj h3).symm hab

theorem f114 {H : Hp} {n : Int} : Scal EE 114 [.int .i64 n] H (.string (keyB n)) := by
  refine scal_ok rfl rfl k114 (by simp [c114]) rfl fun m hw => ?_
  have a99 := fun {m draw t d ts Q} => callT_at (m := m) (draw := draw) (s := t) (d := d) (ts := ts) (Q := Q) (f99 (H := H) (n := n))
  have h7 := varB_size n
  have hs : (⟨#[107]⟩ : ByteArray).size + (varB n).size ≤ 9223372036854775807 := by rw [sz1]; omega
  have a98 := fun {m draw t d ts Q} => callT_at (m := m) (draw := draw) (s := t) (d := d) (ts := ts) (Q := Q) (f98 (H := H) (s := (⟨#[107]⟩ : ByteArray) ++ varB n) (by rw [app_size, sz1]; omega))
  simp only [go_sem, ↓reduceIte, Nat.reduceEqDiff, reduceCtorEq, Nat.reduceAdd, Nat.reduceLeDiff, Nat.reduceMul, c114, a99, hw, hs, a98]
  rfl

theorem parts_some {s : ByteArray} : (partsB s).isSome = isB s 108 := by
  cases h : isB s 108 with
  | true => rw [partsB_yes h]; rfl
  | false => rw [partsB_no h]; rfl

theorem f76 {H : Hp} {vt vk vl : Value} {kt : List ByteArray} {kk : List Int} {l : List Wy} {i : Nat} (ht : SlS H vt kt) (hk : SlI H vk kk) (hl : SlWy H vl l) (hz : ∀ w ∈ l, w.1.size ≤ 4611686018427387904) (hi : i < l.length) (hle : l.length ≤ 4611686018427387904) :
    Scal EE 76 [.agg #[vt, vk], vl, .int .i64 i] H (.bool (wyB kt kk l i)) := by
  refine scal_ok rfl rfl k76 (by simp [c76]) rfl fun m hw => ?_
  obtain ⟨w, hwi⟩ : ∃ w, l[i]? = some w := ⟨_, List.getElem?_eq_getElem hi⟩
  obtain ⟨id, p, o, ho, hr, hp, hia⟩ := hl.elem hwi
  unfold En at hr
  have yes := fun h => wy_yes (kt := kt) (kk := kk) hwi h
  have no := fun h => wy_no (kt := kt) (kk := kk) hwi h
  obtain ⟨wt, wf, ww⟩ := w
  simp only [go_sem, ↓reduceIte, Nat.reduceEqDiff, reduceCtorEq, Nat.reduceAdd, Nat.reduceLeDiff, Nat.reduceMul, c76, ht.vc, hk.vc, hia, ho, hr, hp, eWy]
  refine brT.intro (fun q1 => ?_) (fun q1 => ?_) <;> simp only [go_sem, ↓reduceIte, Nat.reduceEqDiff, reduceCtorEq, Nat.reduceAdd, Nat.reduceLeDiff, Nat.reduceMul, ht.vc]
  · have q1' : wf = -1 := of_decide_eq_true q1
    subst q1'
    have a111 := fun {m draw t d ts Q} => callT_at (m := m) (draw := draw) (s := t) (d := d) (ts := ts) (Q := Q) (f111 (a := wt) ht)
    cases q2 : decide (ww = -1) <;> simp only [go_sem, ↓reduceIte, Nat.reduceEqDiff, reduceCtorEq, Nat.reduceAdd, Nat.reduceLeDiff, Nat.reduceMul, ht.vc, a111, hw]
    · rw [no (fun h => by
        have := of_decide_eq_false q2
        rcases h with h | h
        · exact this h.2.1
        · exact absurd (show (0 : Int) ≤ -1 from h.1) (by decide))]
    · cases q3 : memS wt kt with
      | true => rw [yes (.inl ⟨rfl, of_decide_eq_true q2, memS_t.1 q3⟩)]
      | false => rw [no (fun h => by
          rcases h with h | h
          · exact memS_f.1 q3 h.2.2
          · exact absurd (show (0 : Int) ≤ -1 from h.1) (by decide))]
  have q1' : wf ≠ -1 := of_decide_eq_false q1
  have w1 : IntKind.i64.wrap ((i : Int) - 1) = (i : Int) - 1 := wrap64 _ (by omega) (by omega)
  simp only [go_sem, ↓reduceIte, Nat.reduceEqDiff, reduceCtorEq, Nat.reduceAdd, Nat.reduceLeDiff, Nat.reduceMul, w1, c112', hw]
  cases q2 : (decide (wf ≥ 0) && decide (wf ≤ (i : Int) - 1)) <;> simp only [go_sem, ↓reduceIte, Nat.reduceEqDiff, reduceCtorEq, Nat.reduceAdd, Nat.reduceLeDiff, Nat.reduceMul]
  · rw [no (fun h => by
      simp only [Bool.and_eq_false_iff, decide_eq_false_iff_not] at q2
      rcases h with h | h
      · exact q1' h.1
      · have a1 : 0 ≤ wf := h.1
        have a2 : wf < (i : Int) := h.2.1
        omega)]
  simp only [Bool.and_eq_true, decide_eq_true_eq] at q2
  obtain ⟨f, rfl⟩ : ∃ f : Nat, wf = f := ⟨wf.toNat, by omega⟩
  have hf : f < i := by omega
  obtain ⟨u, hu⟩ : ∃ u, l[f]? = some u := ⟨_, List.getElem?_eq_getElem (by omega)⟩
  obtain ⟨id2, p2, o2, ho2, hr2, hp2, hia2⟩ := hl.elem hu
  unfold En at hr2
  have hg2 : o2[p2]? = some (.string u.1) := by simpa [eWy] using getElem?_of_take hr2 (j := 0) (by omega)
  have hus := hz _ (List.mem_of_getElem? hu)
  have ftn : ((f : Int)).toNat = f := rfl
  -- what is left to be shown
  have no2 : ¬ ((isB u.1 108 = true ∧ ww = -1 ∧ wt ∈ (partsB u.1).getD []) ∨ (isB u.1 115 = true ∧ inS u.1 = wt ∧ ((ww = -2 ∧ lkS u.1 ∈ kk) ∨ (0 ≤ ww ∧ ww < i ∧ ∀ x, l[ww.toNat]? = some x → x.1 = keyB (lkS u.1))))) → wyB kt kk l i = false := fun h => no (fun h2 => by
    rcases h2 with h2 | h2
    · exact q1' h2.1
    · exact h (h2.2.2 u hu))
  have yes2 : ((isB u.1 108 = true ∧ ww = -1 ∧ wt ∈ (partsB u.1).getD []) ∨ (isB u.1 115 = true ∧ inS u.1 = wt ∧ ((ww = -2 ∧ lkS u.1 ∈ kk) ∨ (0 ≤ ww ∧ ww < i ∧ ∀ x, l[ww.toNat]? = some x → x.1 = keyB (lkS u.1))))) → wyB kt kk l i = true := fun h => yes (.inr ⟨(by omega : (0 : Int) ≤ (f : Int)), (by omega : (f : Int) < (i : Int)), fun u' hu' => by
    have : l[f]? = some u' := hu'
    rw [hu] at this
    cases this
    exact h⟩)
  simp only [go_sem, ↓reduceIte, Nat.reduceEqDiff, reduceCtorEq, Nat.reduceAdd, Nat.reduceLeDiff, Nat.reduceMul, hia2, ho2, hg2]
  refine callT_to (fun m' h => f81 (H := H) hus h) rfl hw fun r1 H1 ⟨wp, e1, p1, s1, o1⟩ => ?_
  subst e1
  have hw1 := hw.pre p1
  simp only [go_sem, ↓reduceIte, Nat.reduceEqDiff, reduceCtorEq, Nat.reduceAdd, Nat.reduceLeDiff, Nat.reduceMul, List.getElem?_toArray, ofV, parts_some]
  cases q3 : isB u.1 108 <;> simp only [go_sem, ↓reduceIte, Nat.reduceEqDiff, reduceCtorEq, Nat.reduceAdd, Nat.reduceLeDiff, Nat.reduceMul]
  rotate_left
  · have a111 := fun {m draw t d ts Q} => callT_at (m := m) (draw := draw) (s := t) (d := d) (ts := ts) (Q := Q) (f111 (a := wt) s1)
    cases q4 : decide (ww = -1) <;> simp only [go_sem, ↓reduceIte, Nat.reduceEqDiff, reduceCtorEq, Nat.reduceAdd, Nat.reduceLeDiff, Nat.reduceMul, a111, hw1]
    · rw [no2 (fun h => by
        have := of_decide_eq_false q4
        rcases h with h | h
        · exact this h.2.1
        · rw [isB_ne q3 (by decide)] at h; exact absurd h.1 (by decide))]
      exact ⟨rfl, pre_take p1⟩
    · cases q5 : memS wt ((partsB u.1).getD []) with
      | true =>
        rw [yes2 (.inl ⟨q3, of_decide_eq_true q4, memS_t.1 q5⟩)]
        exact ⟨rfl, pre_take p1⟩
      | false =>
        rw [no2 (fun h => by
          rcases h with h | h
          · exact memS_f.1 q5 h.2.2
          · rw [isB_ne q3 (by decide)] at h; exact absurd h.1 (by decide))]
        exact ⟨rfl, pre_take p1⟩
  have a83 := fun {m draw t d ts Q} => callT_at (m := m) (draw := draw) (s := t) (d := d) (ts := ts) (Q := Q) (f83 (H := H1) hus)
  simp only [go_sem, ↓reduceIte, Nat.reduceEqDiff, reduceCtorEq, Nat.reduceAdd, Nat.reduceLeDiff, Nat.reduceMul, a83, hw1]
  unfold sealedV
  cases q4 : isB u.1 115 with
  | false =>
    have d1 : (false = true) = False := by simp
    simp only [go_sem, ↓reduceIte, Nat.reduceEqDiff, reduceCtorEq, Nat.reduceAdd, Nat.reduceLeDiff, Nat.reduceMul, d1, List.getElem?_toArray, ofV]
    rw [no2 (fun h => by
      rcases h with h | h
      · rw [q3] at h; exact absurd h.1 (by decide)
      · rw [q4] at h; exact absurd h.1 (by decide))]
    exact ⟨rfl, pre_take p1⟩
  | true =>
    simp only [go_sem, ↓reduceIte, Nat.reduceEqDiff, reduceCtorEq, Nat.reduceAdd, Nat.reduceLeDiff, Nat.reduceMul, List.getElem?_toArray, ofV]
    have ein : rest u.1 (1 + (rdV (rest u.1 1)).2) = inS u.1 := rfl
    have elk : (((rdV (rest u.1 1)).1 : Nat) : Int) = lkS u.1 := rfl
    rw [ein, elk]
    cases q5 : decide (inS u.1 = wt) <;> simp only [go_sem, ↓reduceIte, Nat.reduceEqDiff, reduceCtorEq, Nat.reduceAdd, Nat.reduceLeDiff, Nat.reduceMul]
    · rw [no2 (fun h => by
        rcases h with h | h
        · rw [q3] at h; exact absurd h.1 (by decide)
        · exact of_decide_eq_false q5 h.2.1)]
      exact ⟨rfl, pre_take p1⟩
    have q5' := of_decide_eq_true q5
    have k1 := hk.pre p1
    have a113 := fun {m draw t d ts Q} => callT_at (m := m) (draw := draw) (s := t) (d := d) (ts := ts) (Q := Q) (f113 (a := lkS u.1) k1)
    cases q6 : decide (ww = -2) with
    | true =>
      have q6' : ww = -2 := of_decide_eq_true q6
      subst q6'
      simp only [go_sem, ↓reduceIte, Nat.reduceEqDiff, reduceCtorEq, Nat.reduceAdd, Nat.reduceLeDiff, Nat.reduceMul, hk.vc, a113, hw1]
      cases q7 : decide (lkS u.1 ∈ kk) with
      | true =>
        rw [yes2 (.inr ⟨q4, q5', .inl ⟨rfl, of_decide_eq_true q7⟩⟩)]
        exact ⟨rfl, pre_take p1⟩
      | false =>
        rw [no2 (fun h => by
          rcases h with h | h
          · rw [q3] at h; exact absurd h.1 (by decide)
          · rcases h.2.2 with h | h
            · exact of_decide_eq_false q7 h.2
            · exact absurd h.1 (by decide))]
        exact ⟨rfl, pre_take p1⟩
    | false =>
      have q6' := of_decide_eq_false q6
      simp only [go_sem, ↓reduceIte, Nat.reduceEqDiff, reduceCtorEq, Nat.reduceAdd, Nat.reduceLeDiff, Nat.reduceMul]
      have hle0 : decide (H1.length ≤ H1.length) = true := decide_eq_true (Nat.le_refl _)
      refine go_draw2 H1.length ?_
      simp only [go_sem, ↓reduceIte, Nat.reduceEqDiff, reduceCtorEq, Nat.reduceAdd, Nat.reduceLeDiff, Nat.reduceMul, w1, c112', hw1, hle0]
      cases q7 : (decide (ww ≥ 0) && decide (ww ≤ (i : Int) - 1)) with
      | false =>
        simp only [go_sem, ↓reduceIte, Nat.reduceEqDiff, reduceCtorEq, Nat.reduceAdd, Nat.reduceLeDiff, Nat.reduceMul]
        refine ⟨by rfl, ?_⟩
        rw [no2 (fun h => by
          simp only [Bool.and_eq_false_iff, decide_eq_false_iff_not] at q7
          rcases h with h | h
          · rw [q3] at h; exact absurd h.1 (by decide)
          · rcases h.2.2 with h | h
            · exact q6' h.1
            · have := h.1; have := h.2.1; omega)]
        exact ⟨rfl, pre_take p1⟩
      | true =>
        simp only [Bool.and_eq_true, decide_eq_true_eq] at q7
        obtain ⟨g, rfl⟩ : ∃ g : Nat, ww = g := ⟨ww.toNat, by omega⟩
        have hg : g < i := by omega
        obtain ⟨x, hx⟩ : ∃ x, l[g]? = some x := ⟨_, List.getElem?_eq_getElem (by omega)⟩
        obtain ⟨id3, p3, o3, ho3, hr3, hp3, hia3⟩ := (hl.pre p1).elem hx
        unfold En at hr3
        have hg3 : o3[p3]? = some (.string x.1) := by simpa [eWy] using getElem?_of_take hr3 (j := 0) (by omega)
        have a114 := fun {m draw t d ts Q} => callT_at (m := m) (draw := draw) (s := t) (d := d) (ts := ts) (Q := Q) (f114 (H := H1) (n := lkS u.1))
        have hlt3 : decide (id3 < H1.length) = true := decide_eq_true (List.getElem?_eq_some_iff.1 ho3).1
        simp only [go_sem, ↓reduceIte, Nat.reduceEqDiff, reduceCtorEq, Nat.reduceAdd, Nat.reduceLeDiff, Nat.reduceMul, hia3, ho3, hg3, a114, hw1, hle0, hlt3]
        refine ⟨by rfl, ?_⟩
        have hgt : ((g : Int)).toNat = g := rfl
        cases q8 : decide (x.1 = keyB (lkS u.1)) with
        | true =>
          rw [yes2 (.inr ⟨q4, q5', .inr ⟨by omega, by omega, fun x' hx' => by
            have : l[g]? = some x' := hx'
            rw [hx] at this
            cases this
            exact of_decide_eq_true q8⟩⟩)]
          exact ⟨rfl, pre_take p1⟩
        | false =>
          rw [no2 (fun h => by
            rcases h with h | h
            · rw [q3] at h; exact absurd h.1 (by decide)
            · rcases h.2.2 with h | h
              · exact q6' h.1
              · exact of_decide_eq_false q8 (h.2.2 x hx))]
          exact ⟨rfl, pre_take p1⟩
end Go.Proofs.Ytpdkgbamakileaa.Ev

/- Terms within terms; steps, one after the other: plain. -/
namespace Go.Proofs.Ytpdkgbamakileaa.Ev
set_option linter.all false
open Go
set_option maxRecDepth 4000

theorem readV.cut {s y : ByteArray} {n k : Nat} (h : readV (s ++ y) n k) (hk : k ≤ s.size) : readV s n k := by
  obtain ⟨h1, h2, h3, h4, h5⟩ := h
  refine ⟨h1, h2, hk, by rw [← valB_ext (y := y) hk]; exact h4, ?_⟩
  unfold isV at h5 ⊢
  rw [valB_ext hk, extract_ext hk] at h5
  exact h5
theorem rdV_cut {s y : ByteArray} (h : ¬ (rdV (s ++ y)).2 = 0) (hk : (rdV (s ++ y)).2 ≤ s.size) : rdV s = rdV (s ++ y) := by
  rcases rdV_cases (s ++ y) with h2 | ⟨n, k, h2, hr⟩
  · rw [h2] at h; exact absurd rfl h
  · rw [h2] at hk ⊢
    exact rdV_eq (hr.cut hk)
theorem itr_in {f g : Nat → Option Nat} {c m : Nat} (hf : ∀ a e, f a = some e → a < e) (hfg : ∀ a e, e ≤ m → f (c + a) = some (c + e) → g a = some e) : ∀ {i a e : Nat}, e ≤ m → itr f i (c + a) = some (c + e) → itr g i a = some e
  | 0, a, e, _, h => by
    simp only [itr, Option.some.injEq] at h ⊢
    omega
  | i + 1, a, e, he, h => by
    rw [itr] at h ⊢
    cases hfa : f (c + a) with
    | none => rw [hfa] at h; cases h
    | some e' =>
      rw [hfa] at h
      have h1 := hf _ _ hfa
      have hle : ∀ {i a e : Nat}, itr f i a = some e → a ≤ e := by
        intro i
        induction i with
        | zero => intro a e h; simp only [itr, Option.some.injEq] at h; omega
        | succ i ih =>
          intro a e h
          rw [itr] at h
          cases hfa : f a with
          | none => rw [hfa] at h; cases h
          | some x =>
            rw [hfa] at h
            have := hf _ _ hfa
            have := ih h
            omega
      have h2 := hle h
      obtain ⟨b, rfl⟩ : ∃ b, e' = c + b := ⟨e' - c, by omega⟩
      rw [hfg a b (by omega) hfa]
      exact itr_in hf hfg he h

/-- A term that lies within a text's part stands in the part. -/
theorem tm_in {x t y : ByteArray} : ∀ {d a e : Nat}, e ≤ t.size → tmE (x ++ t ++ y) d (x.size + a) = some (x.size + e) → tmE t d a = some e
  | 0, a, e, _, h => by cases h
  | d + 1, a, e, he, h => by
    have ih : ∀ a e, e ≤ t.size → tmE (x ++ t ++ y) d (x.size + a) = some (x.size + e) → tmE t d a = some e := fun a e he h => tm_in he h
    have hlt := (tmE_le h).1
    rw [tmE, tmStep] at h ⊢
    have hal : a < t.size := by omega
    obtain ⟨c, hc⟩ := byte_at hal
    have hc2 : (x ++ t ++ y)[x.size + a]? = some c := by
      rw [cat_left (by rw [ByteArray.size_append]; omega), cat_right]
      exact hc
    rw [hc2] at h
    rw [hc]
    simp only at h ⊢
    have hrest : rest (x ++ t ++ y) (x.size + a + 1) = rest t (a + 1) ++ y := by
      rw [show x.size + a + 1 = x.size + (a + 1) by omega, rest_mid (by omega)]
    rw [hrest] at h
    have hsz : (x ++ t ++ y).size = x.size + t.size + y.size := by rw [ByteArray.size_append, ByteArray.size_append]
    by_cases hk : (rdV (rest t (a + 1) ++ y)).2 = 0
    · rw [if_pos hk] at h; cases h
    rw [if_neg hk] at h
    have hin : (rdV (rest t (a + 1) ++ y)).2 ≤ (rest t (a + 1)).size → rdV (rest t (a + 1)) = rdV (rest t (a + 1) ++ y) := rdV_cut hk
    rw [rest_size] at hin
    generalize hR : rdV (rest t (a + 1) ++ y) = R at *
    by_cases h97 : c = 97
    · rw [if_pos h97] at h
      split at h
      · rename_i h2
        have h3 := Option.some.inj h
        rw [hin (by omega), if_neg hk, if_pos h97, if_pos ⟨h2.1, by omega⟩]
        congr 1
        omega
      · cases h
    rw [if_neg h97] at h
    by_cases h107 : c = 107
    · rw [if_pos h107] at h
      split at h
      · rename_i h2
        have h3 := Option.some.inj h
        rw [hin (by omega), if_neg hk, if_neg h97, if_pos h107, if_pos h2]
        congr 1
        omega
      · cases h
    rw [if_neg h107] at h
    by_cases h108 : c = 108
    · rw [if_pos h108] at h
      split at h
      · rename_i h2
        rw [show x.size + a + 1 + R.2 = x.size + (a + 1 + R.2) by omega] at h
        have hle := itr_le (s := x ++ t ++ y) (f := tmE (x ++ t ++ y) d) (fun a e h => tmE_le h) (i := R.1) (a := x.size + (a + 1 + R.2)) (e := x.size + e) (by
          have := rdV_le (rest t (a + 1) ++ y)
          rw [hR, ByteArray.size_append, rest_size] at this
          omega) h
        rw [hin (by omega), if_neg hk, if_neg h97, if_neg h107, if_pos h108, if_pos h2]
        exact itr_in (fun a e h => (tmE_le h).1) ih he h
      · cases h
    rw [if_neg h108] at h
    by_cases h115 : c = 115
    · rw [if_pos h115] at h
      split at h
      · rename_i h2
        rw [show x.size + a + 1 + R.2 = x.size + (a + 1 + R.2) by omega] at h
        have hle := (tmE_le h).1
        rw [hin (by omega), if_neg hk, if_neg h97, if_neg h107, if_neg h108, if_pos h115, if_pos h2]
        exact ih _ _ he h
      · cases h
    rw [if_neg h115] at h
    cases h

/-- Within a text. -/
def Infx (p s : ByteArray) : Prop := ∃ x y, s = x ++ p ++ y
theorem Infx.refl (s : ByteArray) : Infx s s := ⟨ByteArray.empty, ByteArray.empty, by simp⟩
theorem Infx.trans {p s u : ByteArray} (h : Infx p s) (k : Infx s u) : Infx p u := by
  obtain ⟨x, y, rfl⟩ := h
  obtain ⟨x', y', rfl⟩ := k
  exact ⟨x' ++ x, y ++ y', by simp only [ByteArray.append_assoc]⟩
theorem Infx.size {p s : ByteArray} (h : Infx p s) : p.size ≤ s.size := by
  obtain ⟨x, y, rfl⟩ := h
  rw [ByteArray.size_append, ByteArray.size_append]
  omega
theorem split3 (s : ByteArray) {a b : Nat} (hab : a ≤ b) (hb : b ≤ s.size) : s = s.extract 0 a ++ s.extract a b ++ s.extract b s.size := by
  rw [ByteArray.extract_append_extract, Nat.min_eq_left (Nat.zero_le _), Nat.max_eq_right hab, ByteArray.extract_append_extract]
  rw [Nat.min_eq_left (Nat.zero_le _), Nat.max_eq_right hb, ByteArray.extract_zero_size]
/-- All that lies within some texts, as a row. -/
def subs (kt : List ByteArray) : List ByteArray := kt.flatMap fun u => (List.range 901).flatMap fun a => (List.range 901).map fun b => u.extract a b
theorem subs_mem {kt : List ByteArray} {u p : ByteArray} (hu : u ∈ kt) (hz : u.size ≤ 900) (h : Infx p u) : p ∈ subs kt := by
  obtain ⟨x, y, rfl⟩ := h
  rw [ByteArray.size_append, ByteArray.size_append] at hz
  refine List.mem_flatMap.2 ⟨_, hu, List.mem_flatMap.2 ⟨x.size, List.mem_range.2 (by omega), List.mem_map.2 ⟨x.size + p.size, List.mem_range.2 (by omega), extract_mid⟩⟩⟩
theorem subs_len (kt : List ByteArray) : (subs kt).length = kt.length * (901 * 901) := by
  unfold subs
  induction kt with
  | nil => rfl
  | cons a l ih =>
    rw [List.flatMap_cons, List.length_append, ih]
    have : ((List.range 901).flatMap fun i => (List.range 901).map fun b => a.extract i b).length = 901 * 901 := by
      rw [List.length_flatMap]
      have : (List.range 901).map (fun i => ((List.range 901).map fun b => a.extract i b).length) = List.replicate 901 901 := by
        rw [List.eq_replicate_iff]
        refine ⟨by simp, fun b hb => ?_⟩
        obtain ⟨j, _, rfl⟩ := List.mem_map.1 hb
        simp
      rw [this]
      simp
    rw [this, List.length_cons, Nat.add_mul, Nat.one_mul, Nat.add_comm]
theorem nodup_len {α : Type} : ∀ {l S : List α}, l.Nodup → (∀ x ∈ l, x ∈ S) → l.length ≤ S.length
  | [], _, _, _ => Nat.zero_le _
  | a :: l, S, hn, hs => by
    obtain ⟨S1, S2, rfl⟩ := List.append_of_mem (hs a (by simp))
    have hn' := List.nodup_cons.1 hn
    have := nodup_len (S := S1 ++ S2) hn'.2 fun x hx => by
      have h1 := hs x (List.mem_cons_of_mem _ hx)
      have h2 : x ≠ a := fun e => hn'.1 (e ▸ hx)
      simp only [List.mem_append, List.mem_cons] at h1 ⊢
      rcases h1 with h1 | h1 | h1
      · exact .inl h1
      · exact absurd h1 h2
      · exact .inr h1
    simp only [List.length_append, List.length_cons] at this ⊢
    omega

/-- A list's parts are terms within it. -/
theorem part_term {s p : ByteArray} (h : isB s 108 = true) (hp : p ∈ (partsB s).getD []) : tOk p = true ∧ Infx p s := by
  obtain ⟨ht, hc⟩ := isB_t.1 h
  rw [partsB_yes h] at hp
  have hp : p ∈ segL s (1 + (rdV (rest s 1)).2) (rdV (rest s 1)).1 := hp
  obtain ⟨j, hj, rfl⟩ := List.mem_map.1 hp
  have hj := List.mem_range.1 hj
  obtain ⟨e, h1, h2⟩ := pos_some ht hc j (by omega)
  obtain ⟨e', h3, h4⟩ := pos_some ht hc (j + 1) (by omega)
  have hstep := pos_next h1 h3
  have hlt := (tmE_le hstep).1
  have ee : posN s (1 + (rdV (rest s 1)).2) j = e := by unfold posN; rw [h1]; rfl
  have ee' : posN s (1 + (rdV (rest s 1)).2) (j + 1) = e' := by unfold posN; rw [h3]; rfl
  rw [ee, ee']
  have h3s := split3 s (Nat.le_of_lt hlt) h4
  have hz1 : (s.extract 0 e).size = e := by rw [ByteArray.size_extract]; omega
  have hz2 : (s.extract e e').size = e' - e := by rw [ByteArray.size_extract]; omega
  refine ⟨?_, _, _, h3s⟩
  rw [tOk_t]
  have h900 := (tOk_t.1 ht).2.1
  refine ⟨by omega, by omega, ?_⟩
  have hin := tm_in (x := s.extract 0 e) (t := s.extract e e') (y := s.extract e' s.size) (d := 8) (a := 0) (e := (s.extract e e').size) (Nat.le_refl _) (by
    rw [← h3s, hz1, hz2, Nat.add_zero, show e + (e' - e) = e' by omega]
    exact hstep)
  exact hin
/-- What is sealed is a term within the seal. -/
theorem inS_term {s : ByteArray} (h : isB s 115 = true) : tOk (inS s) = true ∧ Infx (inS s) s := by
  obtain ⟨ht, hc⟩ := isB_t.1 h
  obtain ⟨h1, h900, h8⟩ := tOk_t.1 ht
  have h8 : tmStep s (tmE s 7) 0 = some s.size := h8
  unfold tmStep at h8
  rw [hc] at h8
  simp only [Nat.zero_add] at h8
  split at h8
  · cases h8
  rw [if_neg (by decide), if_neg (by decide), if_neg (by decide), if_pos trivial] at h8
  split at h8
  · have h7 := tm_mono h8
    have hlt := (tmE_le h7).1
    have h3s := split3 s (a := 1 + (rdV (rest s 1)).2) (b := s.size) (by omega) (Nat.le_refl _)
    have hz1 : (s.extract 0 (1 + (rdV (rest s 1)).2)).size = 1 + (rdV (rest s 1)).2 := by rw [ByteArray.size_extract]; omega
    have ei : inS s = s.extract (1 + (rdV (rest s 1)).2) s.size := rfl
    have hz2 : (inS s).size = s.size - (1 + (rdV (rest s 1)).2) := by rw [ei, ByteArray.size_extract]; omega
    rw [← ei] at h3s
    refine ⟨?_, _, _, h3s⟩
    rw [tOk_t]
    refine ⟨by omega, by omega, ?_⟩
    exact tm_in (x := s.extract 0 (1 + (rdV (rest s 1)).2)) (t := inS s) (y := s.extract s.size s.size) (d := 8) (a := 0) (e := (inS s).size) (Nat.le_refl _) (by
      rw [← h3s, hz1, hz2, Nat.add_zero, show 1 + (rdV (rest s 1)).2 + (s.size - (1 + (rdV (rest s 1)).2)) = s.size by omega]
      exact h7)
  · cases h8

/-- The terms of some steps. -/
def tms (l : List Wy) : List ByteArray := l.map (·.1)
theorem tms_app (l k : List Wy) : tms (l ++ k) = tms l ++ tms k := List.map_append
def idxW (l : List Wy) (t : ByteArray) : Nat := l.findIdx fun w => decide (w.1 = t)
/-- Where a term stands, or -1. -/
def atW (l : List Wy) (t : ByteArray) : Int := if idxW l t < l.length then (idxW l t : Int) else -1
theorem idxW_le (l : List Wy) (t : ByteArray) : idxW l t ≤ l.length := List.findIdx_le_length
theorem idxW_at {l : List Wy} {t : ByteArray} (h : idxW l t < l.length) : (l[idxW l t]'h).1 = t := by
  have := List.findIdx_getElem (p := fun w : Wy => decide (w.1 = t)) (w := h)
  exact of_decide_eq_true this
theorem idxW_no {l : List Wy} {t : ByteArray} {i : Nat} (h : i < idxW l t) : (l[i]'(by have := idxW_le l t; omega)).1 ≠ t := by
  have := List.not_of_lt_findIdx (p := fun w : Wy => decide (w.1 = t)) (xs := l) h
  exact of_decide_eq_false (by simpa using this)
theorem idxW_eq {l : List Wy} {t : ByteArray} {i : Nat} (hi : i < l.length) (h1 : ∀ j, (h : j < i) → (l[j]'(by omega)).1 ≠ t) (h2 : l[i].1 = t) : idxW l t = i := by
  rcases Nat.lt_trichotomy (idxW l t) i with h | h | h
  · exact absurd (idxW_at (by omega)) (h1 _ h)
  · exact h
  · exact absurd h2 (idxW_no h)
theorem idxW_len {l : List Wy} {t : ByteArray} (h1 : ∀ j, (h : j < l.length) → l[j].1 ≠ t) : idxW l t = l.length := by
  have := idxW_le l t
  rcases Nat.lt_or_ge (idxW l t) l.length with h | h
  · exact absurd (idxW_at h) (h1 _ h)
  · omega
theorem atW_neg {l : List Wy} {t : ByteArray} : atW l t < 0 ↔ t ∉ tms l := by
  unfold atW
  constructor
  · intro h hm
    split at h
    · omega
    · rename_i hn
      obtain ⟨w, hw, e⟩ := List.mem_map.1 hm
      obtain ⟨j, hj, e2⟩ := List.mem_iff_getElem.1 hw
      have hle := idxW_le l t
      exact idxW_no (l := l) (t := t) (i := j) (by omega) (by rw [e2, e])
  · intro h
    rw [if_neg (fun hlt => h (by
      rw [← idxW_at hlt]
      exact List.mem_map.2 ⟨_, List.getElem_mem hlt, rfl⟩))]
    decide
theorem atW_here {l : List Wy} {t : ByteArray} {i : Nat} (hi : i < l.length) (h1 : ∀ j, (h : j < i) → (l[j]'(by omega)).1 ≠ t) (h2 : l[i].1 = t) : atW l t = i := by
  unfold atW
  rw [idxW_eq hi h1 h2, if_pos hi]
theorem atW_none {l : List Wy} {t : ByteArray} (h1 : ∀ j, (h : j < l.length) → l[j].1 ≠ t) : atW l t = -1 := by
  unfold atW
  rw [idxW_len h1, if_neg (by omega)]
theorem atW_ge (l : List Wy) (t : ByteArray) : -1 ≤ atW l t ∧ atW l t < l.length := by
  unfold atW
  split <;> omega
/-- A step more, if its term is new. -/
def addW (w : Wy) (l : List Wy) : List Wy := if atW l w.1 < 0 then l ++ [w] else l
def partsW (i : Nat) (ps : List ByteArray) (l : List Wy) : List Wy := ps.foldl (fun l p => addW (p, (i : Int), -1) l) l
theorem partsW_succ {i : Nat} {ps : List ByteArray} {l : List Wy} {j : Nat} (h : j < ps.length) : partsW i (ps.take (j + 1)) l = addW (ps[j], (i : Int), -1) (partsW i (ps.take j) l) := by
  unfold partsW
  rw [List.take_succ_eq_append_getElem h, List.foldl_append]
  rfl
/-- With what a seal is opened: a key that is known, or a step that shows it. -/
noncomputable def withW (kk : List Int) (l : List Wy) (n : Int) : Option Int := if n ∈ kk then some (-2) else if atW l (keyB n) < 0 then none else some (atW l (keyB n))
noncomputable def sealW (kk : List Int) (i : Nat) (t : ByteArray) (l : List Wy) : List Wy :=
  if isB t 115 = true then (if atW l (inS t) < 0 then (match withW kk l (lkS t) with
    | some n => l ++ [(inS t, (i : Int), n)]
    | none => l) else l) else l
/-- A look at a step. -/
noncomputable def lookW (kk : List Int) (l : List Wy) (i : Nat) : List Wy := match l[i]? with
  | some w => sealW kk i w.1 (partsW i ((partsB w.1).getD []) l)
  | none => l
noncomputable def passW (kk : List Int) : Nat → Nat → List Wy → List Wy
  | f, i, l => if i < l.length then (match f with
    | 0 => l
    | f + 1 => passW kk f (i + 1) (lookW kk l i)) else l
noncomputable def roundW (kk : List Int) (B : Nat) : Nat → List Wy → List Wy
  | f, l => if (passW kk B 0 l).length = l.length then passW kk B 0 l else (match f with
    | 0 => passW kk B 0 l
    | f + 1 => roundW kk B f (passW kk B 0 l))
def begW (kt : List ByteArray) : List Wy := kt.map fun t => (t, -1, -1)
def capW : Nat := 60 * (901 * 901)
noncomputable def stepsW (kt : List ByteArray) (kk : List Int) : List Wy := if knB kt kk = true then roundW kk capW capW (begW kt) else []

/-- Steps whose terms are unlike, terms, and within what is known. -/
def GdW (kt : List ByteArray) (l : List Wy) : Prop := (tms l).Nodup ∧ ∀ w ∈ l, tOk w.1 = true ∧ ∃ u ∈ kt, Infx w.1 u
theorem GdW.cap {kt : List ByteArray} {kk : List Int} {l : List Wy} (hk : KnOk kt kk) (h : GdW kt l) : l.length ≤ capW := by
  have h1 : ∀ x ∈ tms l, x ∈ subs kt := fun x hx => by
    obtain ⟨w, hw, rfl⟩ := List.mem_map.1 hx
    obtain ⟨_, u, hu, hi⟩ := h.2 w hw
    obtain ⟨j, hj, e⟩ := List.mem_iff_getElem.1 hu
    have := (hk.2.2.1 j hj u (by rw [List.getElem?_eq_getElem hj, e])).1
    exact subs_mem hu (tOk_t.1 this).2.1 hi
  have h2 := nodup_len h.1 h1
  rw [subs_len] at h2
  have h3 : (tms l).length = l.length := List.length_map _
  have h4 := Nat.mul_le_mul_right (901 * 901) hk.1
  unfold capW
  omega
theorem GdW.add {kt : List ByteArray} {l : List Wy} {w : Wy} (h : GdW kt l) (h1 : tOk w.1 = true) (h2 : ∃ u ∈ kt, Infx w.1 u) (h3 : w.1 ∉ tms l) : GdW kt (l ++ [w]) := by
  refine ⟨?_, fun x hx => ?_⟩
  · rw [tms_app]
    refine List.nodup_append.2 ⟨h.1, by simp [tms], fun a ha b hb => ?_⟩
    simp only [tms, List.map_cons, List.map_nil, List.mem_singleton] at hb
    subst hb
    exact fun e => h3 (e ▸ ha)
  · rcases List.mem_append.1 hx with hx | hx
    · exact h.2 x hx
    · rw [List.mem_singleton] at hx
      subst hx
      exact ⟨h1, h2⟩
theorem addW_gd {kt : List ByteArray} {l : List Wy} {w : Wy} (h : GdW kt l) (h1 : tOk w.1 = true) (h2 : ∃ u ∈ kt, Infx w.1 u) : GdW kt (addW w l) := by
  unfold addW
  by_cases h3 : atW l w.1 < 0
  · rw [if_pos h3]; exact h.add h1 h2 (atW_neg.1 h3)
  · rw [if_neg h3]; exact h
theorem addW_pre (w : Wy) (l : List Wy) : l <+: addW w l := by
  unfold addW
  split
  · exact List.prefix_append _ _
  · exact List.prefix_refl _
theorem partsW_pre (i : Nat) : ∀ (ps : List ByteArray) (l : List Wy), l <+: partsW i ps l
  | [], l => List.prefix_refl _
  | p :: ps, l => (addW_pre _ l).trans (partsW_pre i ps _)
theorem partsW_gd {kt : List ByteArray} (i : Nat) : ∀ {ps : List ByteArray} {l : List Wy}, GdW kt l → (∀ p ∈ ps, tOk p = true ∧ ∃ u ∈ kt, Infx p u) → GdW kt (partsW i ps l)
  | [], l, h, _ => h
  | p :: ps, l, h, hp => by
    have h2 := addW_gd (w := (p, (i : Int), -1)) h (hp p (by simp)).1 (hp p (by simp)).2
    exact partsW_gd (l := addW (p, (i : Int), -1) l) i h2 fun q hq => hp q (List.mem_cons_of_mem _ hq)
theorem sealW_pre (kk : List Int) (i : Nat) (t : ByteArray) (l : List Wy) : l <+: sealW kk i t l := by
  unfold sealW
  split
  · split
    · split
      · exact List.prefix_append _ _
      · exact List.prefix_refl _
    · exact List.prefix_refl _
  · exact List.prefix_refl _
theorem sealW_gd {kt : List ByteArray} {kk : List Int} {i : Nat} {t : ByteArray} {l : List Wy} (h : GdW kt l) (ht : ∃ u ∈ kt, Infx t u) : GdW kt (sealW kk i t l) := by
  unfold sealW
  cases hs : isB t 115 with
  | false => rw [if_neg (by decide)]; exact h
  | true =>
    rw [if_pos rfl]
    by_cases hm : atW l (inS t) < 0
    · rw [if_pos hm]
      split
      · obtain ⟨h1, h2⟩ := inS_term hs
        obtain ⟨u, hu, hi⟩ := ht
        exact h.add h1 ⟨u, hu, h2.trans hi⟩ (atW_neg.1 hm)
      · exact h
    · rw [if_neg hm]; exact h
theorem look_parts {kt : List ByteArray} {l : List Wy} {i : Nat} {w : Wy} (h : GdW kt l) (hi : l[i]? = some w) : ∀ p ∈ (partsB w.1).getD [], tOk p = true ∧ ∃ u ∈ kt, Infx p u := fun p hp => by
  cases hb : isB w.1 108 with
  | false => rw [partsB_no hb] at hp; simp at hp
  | true =>
    obtain ⟨h1, h2⟩ := part_term hb hp
    obtain ⟨_, u, hu, hi2⟩ := h.2 w (List.mem_of_getElem? hi)
    exact ⟨h1, u, hu, h2.trans hi2⟩
theorem lookW_gd {kt : List ByteArray} {kk : List Int} {l : List Wy} {i : Nat} (h : GdW kt l) : GdW kt (lookW kk l i) := by
  unfold lookW
  split
  · rename_i w hi
    exact sealW_gd (partsW_gd i h (look_parts h hi)) (h.2 w (List.mem_of_getElem? hi)).2
  · exact h
theorem lookW_pre (kk : List Int) (l : List Wy) (i : Nat) : l <+: lookW kk l i := by
  unfold lookW
  split
  · exact (partsW_pre i _ l).trans (sealW_pre _ _ _ _)
  · exact List.prefix_refl _
theorem passW_stop {kk : List Int} {f i : Nat} {l : List Wy} (h : ¬ i < l.length) : passW kk f i l = l := by
  unfold passW
  rw [if_neg h]
theorem passW_step {kk : List Int} {f i : Nat} {l : List Wy} (h : i < l.length) : passW kk (f + 1) i l = passW kk f (i + 1) (lookW kk l i) := by
  rw [passW, if_pos h]
theorem passW_gd {kt : List ByteArray} {kk : List Int} : ∀ {f i : Nat} {l : List Wy}, GdW kt l → GdW kt (passW kk f i l) ∧ l <+: passW kk f i l
  | 0, i, l, h => by
    unfold passW
    split
    · exact ⟨h, List.prefix_refl _⟩
    · exact ⟨h, List.prefix_refl _⟩
  | f + 1, i, l, h => by
    by_cases hi : i < l.length
    · rw [passW_step hi]
      have := passW_gd (kk := kk) (f := f) (i := i + 1) (lookW_gd (kk := kk) (i := i) h)
      exact ⟨this.1, (lookW_pre kk l i).trans this.2⟩
    · rw [passW_stop hi]
      exact ⟨h, List.prefix_refl _⟩
theorem roundW_stop {kk : List Int} {B f : Nat} {l : List Wy} (h : (passW kk B 0 l).length = l.length) : roundW kk B f l = passW kk B 0 l := by
  unfold roundW
  rw [if_pos h]
theorem roundW_step {kk : List Int} {B f : Nat} {l : List Wy} (h : ¬ (passW kk B 0 l).length = l.length) : roundW kk B (f + 1) l = roundW kk B f (passW kk B 0 l) := by
  rw [roundW, if_neg h]
theorem begW_gd {kt : List ByteArray} {kk : List Int} (hk : KnOk kt kk) : GdW kt (begW kt) := by
  have e : tms (begW kt) = kt := by
    unfold tms begW
    rw [List.map_map]
    exact List.map_id kt
  refine ⟨?_, fun w hw => ?_⟩
  · rw [e, List.nodup_iff_pairwise_ne, List.pairwise_iff_getElem]
    intro i j hi hj hij e2
    have h3 := (hk.2.2.1 j hj _ (List.getElem?_eq_getElem hj)).2
    refine h3 (List.mem_iff_getElem.2 ⟨i, by rw [List.length_take]; omega, ?_⟩)
    rw [List.getElem_take, e2]
  · obtain ⟨t, ht, rfl⟩ := List.mem_map.1 hw
    obtain ⟨j, hj, e3⟩ := List.mem_iff_getElem.1 ht
    exact ⟨(hk.2.2.1 j hj t (by rw [List.getElem?_eq_getElem hj, e3])).1, t, ht, Infx.refl t⟩
end Go.Proofs.Ytpdkgbamakileaa.Ev

/- Is a step as said: the reference's way; the law StepsOk. -/
namespace Go.Proofs.Ytpdkgbamakileaa.Ev
set_option linter.all false
open Go
set_option maxRecDepth 4000

noncomputable def lockI (t : ByteArray) : Int := if t[0]? = some 115 then lkS t else 0
theorem chd107 (c : UInt8) : decide (((c.toNat : Nat) : Int) = 107) = decide (c = 107) := chd 107 (by decide) c
theorem f108 {H : Hp} {t : ByteArray} (hs : t.size ≤ 4611686018427387904) : Scal EE 108 [.string t] H (.int .i64 (lockI t)) := by
  refine scal_ok rfl rfl k108 (by simp [c108]) rfl fun m hw => ?_
  simp only [go_sem, ↓reduceIte, Nat.reduceEqDiff, reduceCtorEq, Nat.reduceAdd, Nat.reduceLeDiff, Nat.reduceMul, c108, lenTK]
  cases q1 : decide ((t.size : Int) = 0) <;> simp only [go_sem, ↓reduceIte, Nat.reduceEqDiff, reduceCtorEq, Nat.reduceAdd, Nat.reduceLeDiff, Nat.reduceMul]
  rotate_left
  · have : t[0]? = none := getElem?_neg t 0 (by have := of_decide_eq_true q1; show ¬ 0 < t.size; omega)
    unfold lockI
    rw [this, if_neg (by simp)]
  have h0 : 0 < t.size := by have := of_decide_eq_false q1; omega
  obtain ⟨c, hc⟩ := byte_at h0
  have hix : ∀ {s : St} {x : X}, exv s.ρ x = some (.string t) → idxK s x (.c (.int .i64 0)) = some (.val (.int .u8 c.toNat), s) := fun hx => idx_at (i := 0) hc hx rfl
  simp only [go_sem, ↓reduceIte, Nat.reduceEqDiff, reduceCtorEq, Nat.reduceAdd, Nat.reduceLeDiff, Nat.reduceMul, hix, chd115]
  cases q2 : decide (c = 115) <;> simp only [go_sem, ↓reduceIte, Nat.reduceEqDiff, reduceCtorEq, Nat.reduceAdd, Nat.reduceLeDiff, Nat.reduceMul]
  · unfold lockI
    rw [hc, if_neg (fun h => of_decide_eq_false q2 (Option.some.inj h))]
  · have hsl : ∀ {s : St} {x : X}, exv s.ρ x = some (.string t) → slcSK s x (some (.c (.int .i64 1))) none = some (.val (.string (rest t 1)), s) := fun hx => slc_rest (k := 1) (by omega) hx rfl
    have a127 := fun {m draw t' d ts Q} => callT_at (m := m) (draw := draw) (s := t') (d := d) (ts := ts) (Q := Q) (f127 (H := H) (s := rest t 1) (by rw [rest_size]; omega))
    simp only [go_sem, ↓reduceIte, Nat.reduceEqDiff, reduceCtorEq, Nat.reduceAdd, Nat.reduceLeDiff, Nat.reduceMul, hsl, a127, hw, List.getElem?_toArray, ofV]
    unfold lockI
    rw [hc, if_pos (by rw [of_decide_eq_true q2])]
    rfl
theorem open_lock (t : ByteArray) : openB t (lockI t) = if isB t 115 = true then some (inS t) else none := by
  cases h : isB t 115 with
  | false => rw [openB_no h]; rfl
  | true =>
    have e : lockI t = lkS t := by unfold lockI; rw [if_pos (isB_t.1 h).2]
    rw [e, if_pos rfl]
    exact openB_yes h rfl
theorem f110 {H : Hp} {s : ByteArray} (hs : s.size ≤ 4611686018427387904) : Scal EE 110 [.string s] H (.tuple #[.int .i64 (if isB s 107 = true then lkS s else 0), .bool (isB s 107)]) := by
  refine scal_ok rfl rfl k110 (by simp [c110]) rfl fun m hw => ?_
  have a88 := fun {m draw t' d ts Q} => callT_at (m := m) (draw := draw) (s := t') (d := d) (ts := ts) (Q := Q) (f88 (H := H) hs)
  simp only [go_sem, ↓reduceIte, Nat.reduceEqDiff, reduceCtorEq, Nat.reduceAdd, Nat.reduceLeDiff, Nat.reduceMul, c110, a88, hw]
  cases q1 : tOk s <;> simp only [go_sem, ↓reduceIte, Nat.reduceEqDiff, reduceCtorEq, Nat.reduceAdd, Nat.reduceLeDiff, Nat.reduceMul]
  · have : isB s 107 = false := by unfold isB; rw [q1]; rfl
    rw [this]
    rfl
  have h0 := (tOk_t.1 q1).1
  obtain ⟨c, hc⟩ := byte_at (show 0 < s.size by omega)
  have hix : ∀ {t : St} {x : X}, exv t.ρ x = some (.string s) → idxK t x (.c (.int .i64 0)) = some (.val (.int .u8 c.toNat), t) := fun hx => idx_at (i := 0) hc hx rfl
  simp only [go_sem, ↓reduceIte, Nat.reduceEqDiff, reduceCtorEq, Nat.reduceAdd, Nat.reduceLeDiff, Nat.reduceMul, hix, chd107]
  cases q2 : decide (c = 107) <;> simp only [go_sem, ↓reduceIte, Nat.reduceEqDiff, reduceCtorEq, Nat.reduceAdd, Nat.reduceLeDiff, Nat.reduceMul]
  · have : isB s 107 = false := by
      cases h : isB s 107 with
      | false => rfl
      | true =>
        have := (isB_t.1 h).2
        rw [hc] at this
        exact absurd (Option.some.inj this) (of_decide_eq_false q2)
    rw [this]
    rfl
  · have : isB s 107 = true := isB_t.2 ⟨q1, by rw [hc, of_decide_eq_true q2]⟩
    have hsl : ∀ {t : St} {x : X}, exv t.ρ x = some (.string s) → slcSK t x (some (.c (.int .i64 1))) none = some (.val (.string (rest s 1)), t) := fun hx => slc_rest (k := 1) (by omega) hx rfl
    have a127 := fun {m draw t' d ts Q} => callT_at (m := m) (draw := draw) (s := t') (d := d) (ts := ts) (Q := Q) (f127 (H := H) (s := rest s 1) (by rw [rest_size]; omega))
    simp only [go_sem, ↓reduceIte, Nat.reduceEqDiff, reduceCtorEq, Nat.reduceAdd, Nat.reduceLeDiff, Nat.reduceMul, hsl, a127, hw, List.getElem?_toArray, ofV]
    rw [this]
    rfl

theorem f73 {H : Hp} {vt vk vl : Value} {kt : List ByteArray} {kk : List Int} {l : List Wy} {i : Nat} (ht : SlS H vt kt) (hk : SlI H vk kk) (hl : SlWy H vl l) (hz : ∀ w ∈ l, w.1.size ≤ 4611686018427387904) (hi : i < l.length) (hle : l.length ≤ 4611686018427387904) :
    Scal EE 73 [.agg #[vt, vk], vl, .int .i64 i] H (.bool (wyB kt kk l i)) := by
  refine scal_ok rfl rfl k73 (by simp [c73]) rfl fun m hw => ?_
  obtain ⟨w, hwi⟩ : ∃ w, l[i]? = some w := ⟨_, List.getElem?_eq_getElem hi⟩
  obtain ⟨id, p, o, ho, hr, hp, hia⟩ := hl.elem hwi
  unfold En at hr
  have yes := fun h => wy_yes (kt := kt) (kk := kk) hwi h
  have no := fun h => wy_no (kt := kt) (kk := kk) hwi h
  obtain ⟨wt, wf, ww⟩ := w
  simp only [go_sem, ↓reduceIte, Nat.reduceEqDiff, reduceCtorEq, Nat.reduceAdd, Nat.reduceLeDiff, Nat.reduceMul, c73, ht.vc, hk.vc, hia, ho, hr, hp, eWy]
  refine brT.intro (fun q1 => ?_) (fun q1 => ?_) <;> simp only [go_sem, ↓reduceIte, Nat.reduceEqDiff, reduceCtorEq, Nat.reduceAdd, Nat.reduceLeDiff, Nat.reduceMul, ht.vc]
  · have q1' : wf = -1 := of_decide_eq_true q1
    subst q1'
    have a89 := fun {m draw t d ts Q} => callT_at (m := m) (draw := draw) (s := t) (d := d) (ts := ts) (Q := Q) (f89 (a := wt) ht)
    cases q2 : decide (ww = -1) <;> simp only [go_sem, ↓reduceIte, Nat.reduceEqDiff, reduceCtorEq, Nat.reduceAdd, Nat.reduceLeDiff, Nat.reduceMul, ht.vc, a89, hw]
    · rw [no (fun h => by
        have := of_decide_eq_false q2
        rcases h with h | h
        · exact this h.2.1
        · exact absurd (show (0 : Int) ≤ -1 from h.1) (by decide))]
    · cases q3 : memS wt kt with
      | true => rw [yes (.inl ⟨rfl, of_decide_eq_true q2, memS_t.1 q3⟩)]
      | false => rw [no (fun h => by
          rcases h with h | h
          · exact memS_f.1 q3 h.2.2
          · exact absurd (show (0 : Int) ≤ -1 from h.1) (by decide))]
  have q1' : wf ≠ -1 := of_decide_eq_false q1
  cases q2 : decide (wf < 0) <;> simp only [go_sem, ↓reduceIte, Nat.reduceEqDiff, reduceCtorEq, Nat.reduceAdd, Nat.reduceLeDiff, Nat.reduceMul]
  rotate_left
  · rw [no (fun h => by
      have := of_decide_eq_true q2
      rcases h with h | h
      · exact q1' h.1
      · have a1 : 0 ≤ wf := h.1
        omega)]
  cases q2b : decide (wf ≥ (i : Int)) <;> simp only [go_sem, ↓reduceIte, Nat.reduceEqDiff, reduceCtorEq, Nat.reduceAdd, Nat.reduceLeDiff, Nat.reduceMul]
  rotate_left
  · rw [no (fun h => by
      have := of_decide_eq_true q2b
      rcases h with h | h
      · exact q1' h.1
      · have a2 : wf < (i : Int) := h.2.1
        omega)]
  have q2' := of_decide_eq_false q2
  have q2b' := of_decide_eq_false q2b
  obtain ⟨f, rfl⟩ : ∃ f : Nat, wf = f := ⟨wf.toNat, by omega⟩
  have hf : f < i := by omega
  obtain ⟨u, hu⟩ : ∃ u, l[f]? = some u := ⟨_, List.getElem?_eq_getElem (by omega)⟩
  obtain ⟨id2, p2, o2, ho2, hr2, hp2, hia2⟩ := hl.elem hu
  unfold En at hr2
  have hg2 : o2[p2]? = some (.string u.1) := by simpa [eWy] using getElem?_of_take hr2 (j := 0) (by omega)
  have hus := hz _ (List.mem_of_getElem? hu)
  have no2 : ¬ ((isB u.1 108 = true ∧ ww = -1 ∧ wt ∈ (partsB u.1).getD []) ∨ (isB u.1 115 = true ∧ inS u.1 = wt ∧ ((ww = -2 ∧ lkS u.1 ∈ kk) ∨ (0 ≤ ww ∧ ww < i ∧ ∀ x, l[ww.toNat]? = some x → x.1 = keyB (lkS u.1))))) → wyB kt kk l i = false := fun h => no (fun h2 => by
    rcases h2 with h2 | h2
    · exact q1' h2.1
    · exact h (h2.2.2 u hu))
  have yes2 : ((isB u.1 108 = true ∧ ww = -1 ∧ wt ∈ (partsB u.1).getD []) ∨ (isB u.1 115 = true ∧ inS u.1 = wt ∧ ((ww = -2 ∧ lkS u.1 ∈ kk) ∨ (0 ≤ ww ∧ ww < i ∧ ∀ x, l[ww.toNat]? = some x → x.1 = keyB (lkS u.1))))) → wyB kt kk l i = true := fun h => yes (.inr ⟨(by omega : (0 : Int) ≤ (f : Int)), (by omega : (f : Int) < (i : Int)), fun u' hu' => by
    have : l[f]? = some u' := hu'
    rw [hu] at this
    cases this
    exact h⟩)
  simp only [go_sem, ↓reduceIte, Nat.reduceEqDiff, reduceCtorEq, Nat.reduceAdd, Nat.reduceLeDiff, Nat.reduceMul, hia2, ho2, hg2]
  refine brT.intro (fun q3 => ?_) (fun q3 => ?_) <;> simp only [go_sem, ↓reduceIte, Nat.reduceEqDiff, reduceCtorEq, Nat.reduceAdd, Nat.reduceLeDiff, Nat.reduceMul]
  · have q3' : ww = -1 := of_decide_eq_true q3
    subst q3'
    refine callT_to (fun m' h => f93 (H := H) hus h) rfl hw fun r1 H1 ⟨wp, e1, p1, s1, o1⟩ => ?_
    subst e1
    have hw1 := hw.pre p1
    have a89 := fun {m draw t d ts Q} => callT_at (m := m) (draw := draw) (s := t) (d := d) (ts := ts) (Q := Q) (f89 (a := wt) s1)
    simp only [go_sem, ↓reduceIte, Nat.reduceEqDiff, reduceCtorEq, Nat.reduceAdd, Nat.reduceLeDiff, Nat.reduceMul, List.getElem?_toArray, ofV, parts_some]
    cases q4 : isB u.1 108 <;> simp only [go_sem, ↓reduceIte, Nat.reduceEqDiff, reduceCtorEq, Nat.reduceAdd, Nat.reduceLeDiff, Nat.reduceMul, a89, hw1]
    · rw [no2 (fun h => by
        rcases h with h | h
        · rw [q4] at h; exact absurd h.1 (by decide)
        · rcases h.2.2 with h | h
          · exact absurd h.1 (by decide)
          · exact absurd h.1 (by decide))]
      exact ⟨rfl, pre_take p1⟩
    · cases q5 : memS wt ((partsB u.1).getD []) with
      | true =>
        rw [yes2 (.inl ⟨q4, rfl, memS_t.1 q5⟩)]
        exact ⟨rfl, pre_take p1⟩
      | false =>
        rw [no2 (fun h => by
          rcases h with h | h
          · exact memS_f.1 q5 h.2.2
          · rw [isB_ne q4 (by decide)] at h; exact absurd h.1 (by decide))]
        exact ⟨rfl, pre_take p1⟩
  have q3' : ww ≠ -1 := of_decide_eq_false q3
  have a108 := fun {m draw t' d ts Q} => callT_at (m := m) (draw := draw) (s := t') (d := d) (ts := ts) (Q := Q) (f108 (H := H) hus)
  have a100 := fun {m draw t' d ts Q} => callT_at (m := m) (draw := draw) (s := t') (d := d) (ts := ts) (Q := Q) (f100 (H := H) (k := lockI u.1) hus)
  simp only [go_sem, ↓reduceIte, Nat.reduceEqDiff, reduceCtorEq, Nat.reduceAdd, Nat.reduceLeDiff, Nat.reduceMul, a108, hw, a100, opV_at, open_lock, List.getElem?_toArray, ofV]
  cases q4 : isB u.1 115 with
  | false =>
    have d1 : (false = true) = False := by simp
    simp only [go_sem, ↓reduceIte, Nat.reduceEqDiff, reduceCtorEq, Nat.reduceAdd, Nat.reduceLeDiff, Nat.reduceMul, d1, Option.isSome_none]
    rw [no2 (fun h => by
      rcases h with h | h
      · exact q3' h.2.1
      · rw [q4] at h; exact absurd h.1 (by decide))]
  | true =>
    have elk : lockI u.1 = lkS u.1 := by unfold lockI; rw [if_pos (isB_t.1 q4).2]
    have d1 : (some (inS u.1)).isSome = true := rfl
    have d2 : (some (inS u.1)).getD ⟨#[]⟩ = inS u.1 := rfl
    simp only [go_sem, ↓reduceIte, Nat.reduceEqDiff, reduceCtorEq, Nat.reduceAdd, Nat.reduceLeDiff, Nat.reduceMul, d1, d2]
    cases q5 : decide (inS u.1 = wt) <;> simp only [go_sem, ↓reduceIte, Nat.reduceEqDiff, reduceCtorEq, Nat.reduceAdd, Nat.reduceLeDiff, Nat.reduceMul]
    · rw [no2 (fun h => by
        rcases h with h | h
        · exact q3' h.2.1
        · exact of_decide_eq_false q5 h.2.1)]
    have q5' := of_decide_eq_true q5
    rw [elk]
    have a109 := fun {m draw t d ts Q} => callT_at (m := m) (draw := draw) (s := t) (d := d) (ts := ts) (Q := Q) (f109 (a := lkS u.1) hk)
    cases q6 : decide (ww = -2) with
    | true =>
      have q6' : ww = -2 := of_decide_eq_true q6
      subst q6'
      simp only [go_sem, ↓reduceIte, Nat.reduceEqDiff, reduceCtorEq, Nat.reduceAdd, Nat.reduceLeDiff, Nat.reduceMul, hk.vc, a109, hw]
      cases q7 : decide (lkS u.1 ∈ kk) with
      | true => rw [yes2 (.inr ⟨q4, q5', .inl ⟨rfl, of_decide_eq_true q7⟩⟩)]
      | false =>
        rw [no2 (fun h => by
          rcases h with h | h
          · exact q3' h.2.1
          · rcases h.2.2 with h | h
            · exact of_decide_eq_false q7 h.2
            · exact absurd h.1 (by decide))]
    | false =>
      have q6' := of_decide_eq_false q6
      simp only [go_sem, ↓reduceIte, Nat.reduceEqDiff, reduceCtorEq, Nat.reduceAdd, Nat.reduceLeDiff, Nat.reduceMul]
      cases q7 : decide (ww < 0) <;> simp only [go_sem, ↓reduceIte, Nat.reduceEqDiff, reduceCtorEq, Nat.reduceAdd, Nat.reduceLeDiff, Nat.reduceMul]
      rotate_left
      · rw [no2 (fun h => by
          have := of_decide_eq_true q7
          rcases h with h | h
          · exact q3' h.2.1
          · rcases h.2.2 with h | h
            · exact q6' h.1
            · have := h.1; omega)]
      cases q8 : decide (ww ≥ (i : Int)) <;> simp only [go_sem, ↓reduceIte, Nat.reduceEqDiff, reduceCtorEq, Nat.reduceAdd, Nat.reduceLeDiff, Nat.reduceMul]
      rotate_left
      · rw [no2 (fun h => by
          have := of_decide_eq_true q8
          rcases h with h | h
          · exact q3' h.2.1
          · rcases h.2.2 with h | h
            · exact q6' h.1
            · have := h.2.1; omega)]
      have q7' := of_decide_eq_false q7
      have q8' := of_decide_eq_false q8
      obtain ⟨g, rfl⟩ : ∃ g : Nat, ww = g := ⟨ww.toNat, by omega⟩
      have hg : g < i := by omega
      obtain ⟨x, hx⟩ : ∃ x, l[g]? = some x := ⟨_, List.getElem?_eq_getElem (by omega)⟩
      obtain ⟨id3, p3, o3, ho3, hr3, hp3, hia3⟩ := hl.elem hx
      unfold En at hr3
      have hg3 : o3[p3]? = some (.string x.1) := by simpa [eWy] using getElem?_of_take hr3 (j := 0) (by omega)
      have hxs := hz _ (List.mem_of_getElem? hx)
      have a110 := fun {m draw t d ts Q} => callT_at (m := m) (draw := draw) (s := t) (d := d) (ts := ts) (Q := Q) (f110 (H := H) hxs)
      have hki := key_iff (s := x.1) (lock_key q4)
      simp only [go_sem, ↓reduceIte, Nat.reduceEqDiff, reduceCtorEq, Nat.reduceAdd, Nat.reduceLeDiff, Nat.reduceMul, hia3, ho3, hg3, a110, hw, List.getElem?_toArray, ofV]
      cases q9 : isB x.1 107 with
      | false =>
        simp only [go_sem, ↓reduceIte, Nat.reduceEqDiff, reduceCtorEq, Nat.reduceAdd, Nat.reduceLeDiff, Nat.reduceMul]
        rw [no2 (fun h => by
          rcases h with h | h
          · exact q3' h.2.1
          · rcases h.2.2 with h | h
            · exact q6' h.1
            · have := hki.1 (h.2.2 x hx)
              rw [q9] at this
              exact absurd this.1 (by decide))]
      | true =>
        simp only [go_sem, ↓reduceIte, Nat.reduceEqDiff, reduceCtorEq, Nat.reduceAdd, Nat.reduceLeDiff, Nat.reduceMul]
        cases q10 : decide (lkS x.1 = lkS u.1) with
        | true =>
          rw [yes2 (.inr ⟨q4, q5', .inr ⟨by omega, by omega, fun x' hx' => by
            have : l[g]? = some x' := hx'
            rw [hx] at this
            cases this
            exact hki.2 ⟨q9, of_decide_eq_true q10⟩⟩⟩)]
        | false =>
          rw [no2 (fun h => by
            rcases h with h | h
            · exact q3' h.2.1
            · rcases h.2.2 with h | h
              · exact q6' h.1
              · exact of_decide_eq_false q10 (hki.1 (h.2.2 x hx)).2)]

/-- Are all steps as said? -/
def StOk (kt : List ByteArray) (kk : List Int) (l : List Wy) : Prop := KnOk kt kk ∧ ∀ i, i < l.length → wyB kt kk l i = true
open Classical in
noncomputable def stB (kt : List ByteArray) (kk : List Int) (l : List Wy) : Bool := decide (StOk kt kk l)
theorem st_t {kt : List ByteArray} {kk : List Int} {l : List Wy} : stB kt kk l = true ↔ StOk kt kk l := by unfold stB; simp
theorem st_no {kt : List ByteArray} {kk : List Int} {l : List Wy} (h : ¬ StOk kt kk l) : stB kt kk l = false := by unfold stB; simp [h]
theorem f40 {H : Hp} {vt vk vl : Value} {kt : List ByteArray} {kk : List Int} {l : List Wy} (ht : SlS H vt kt) (hk : SlI H vk kk) (hl : SlWy H vl l) (hz : ∀ w ∈ l, w.1.size ≤ 4611686018427387904) (hzt : ∀ x ∈ kt, x.size ≤ 4611686018427387904) (hle : l.length ≤ 4611686018427387904) :
    Scal EE 40 [.agg #[vt, vk], vl] H (.bool (stB kt kk l)) := by
  refine scal_ok rfl rfl k40 (by simp [c40]) rfl fun m hw => ?_
  simp only [go_sem, ↓reduceIte, Nat.reduceEqDiff, reduceCtorEq, Nat.reduceAdd, Nat.reduceLeDiff, Nat.reduceMul, c40, ht.vc, hk.vc, hl.len]
  refine go_for l.length (fun i s => s.H = H ∧ s.ρ 1 = .val vl ∧ s.ρ 2 = .bx 0 [vt, vk] ∧ s.ρ 7 = .val (.int .i64 l.length) ∧ s.ρ 8 = .val (.int .i64 i) ∧ ∀ j, j < i → wyB kt kk l j = true)
    (fun s => s.H = H ∧ s.ρ 2 = .bx 0 [vt, vk] ∧ ∀ j, j < l.length → wyB kt kk l j = true) (by simp [upd, ini]) ?_ ?_
  · rintro i s hi ⟨hH, k1, k2, k7, k8, hn⟩
    simp only [go_sem, ↓reduceIte, Nat.reduceEqDiff, reduceCtorEq, Nat.reduceAdd, Nat.reduceLeDiff, Nat.reduceMul, k1, k2, k7, k8]
    refine brT.intro (fun q => ?_) (fun q => ?_) <;> simp only [go_sem, ↓reduceIte, Nat.reduceEqDiff, reduceCtorEq, Nat.reduceAdd, Nat.reduceLeDiff, Nat.reduceMul, k1, k2, k7, k8]
    · have hil : i < l.length := by have := of_decide_eq_true q; omega
      have a76 := fun {m draw t d ts Q} => callT_at (m := m) (draw := draw) (s := t) (d := d) (ts := ts) (Q := Q) (f76 ht hk hl hz hil hle)
      simp only [go_sem, ↓reduceIte, Nat.reduceEqDiff, reduceCtorEq, Nat.reduceAdd, Nat.reduceLeDiff, Nat.reduceMul, k1, k2, k7, k8, ht.vc, hk.vc, a76, hw, hH]
      refine brT.intro (fun q2 => ?_) (fun q2 => ?_) <;> simp only [go_sem, ↓reduceIte, Nat.reduceEqDiff, reduceCtorEq, Nat.reduceAdd, Nat.reduceLeDiff, Nat.reduceMul, k1, k2, k7, k8, wrap64 ((i : Int) + 1) (by omega) (by omega)]
      · refine ⟨hil, by simp, fun j hj => ?_⟩
        by_cases e : j = i
        · subst e; exact q2
        · exact hn j (by omega)
      · rw [st_no (fun h => by rw [h.2 i hil] at q2; cases q2)]
    · exact ⟨hH, fun j hj => hn j (by have := of_decide_eq_false q; omega)⟩
  · rintro s ⟨hH, k2, hall⟩
    have a77 := fun {m draw t d ts Q} => callT_at (m := m) (draw := draw) (s := t) (d := d) (ts := ts) (Q := Q) (f77 ht hk hzt)
    simp only [go_sem, ↓reduceIte, Nat.reduceEqDiff, reduceCtorEq, Nat.reduceAdd, Nat.reduceLeDiff, Nat.reduceMul, k2, ht.vc, hk.vc, a77, hw, hH]
    cases q : knB kt kk with
    | true => rw [st_t.2 ⟨kn_t.1 q, hall⟩]
    | false => rw [st_no (fun h => by rw [kn_t.2 h.1] at q; cases q)]
theorem f37 {H : Hp} {vt vk vl : Value} {kt : List ByteArray} {kk : List Int} {l : List Wy} (ht : SlS H vt kt) (hk : SlI H vk kk) (hl : SlWy H vl l) (hz : ∀ w ∈ l, w.1.size ≤ 4611686018427387904) (hzt : ∀ x ∈ kt, x.size ≤ 4611686018427387904) (hle : l.length ≤ 4611686018427387904) :
    Scal EE 37 [.agg #[vt, vk], vl] H (.bool (stB kt kk l)) := by
  refine scal_ok rfl rfl k37 (by simp [c37]) rfl fun m hw => ?_
  have a49 := fun {m draw t d ts Q} => callT_at (m := m) (draw := draw) (s := t) (d := d) (ts := ts) (Q := Q) (f49 ht hk hzt)
  simp only [go_sem, ↓reduceIte, Nat.reduceEqDiff, reduceCtorEq, Nat.reduceAdd, Nat.reduceLeDiff, Nat.reduceMul, c37, ht.vc, hk.vc, a49, hw]
  cases q0 : knB kt kk <;> simp only [go_sem, ↓reduceIte, Nat.reduceEqDiff, reduceCtorEq, Nat.reduceAdd, Nat.reduceLeDiff, Nat.reduceMul]
  · rw [st_no (fun h => by rw [kn_t.2 h.1] at q0; cases q0)]
  refine go_for l.length (fun i s => s.H = H ∧ s.ρ 1 = .val vl ∧ s.ρ 2 = .bx 0 [vt, vk] ∧ s.ρ 5 = .val (.int .i64 i) ∧ ∀ j, j < i → wyB kt kk l j = true)
    (fun s => s.H = H ∧ ∀ j, j < l.length → wyB kt kk l j = true) (by simp [upd, ini]) ?_ ?_
  · rintro i s hi ⟨hH, k1, k2, k5, hn⟩
    simp only [go_sem, ↓reduceIte, Nat.reduceEqDiff, reduceCtorEq, Nat.reduceAdd, Nat.reduceLeDiff, Nat.reduceMul, k1, k2, k5, hl.len]
    refine brT.intro (fun q => ?_) (fun q => ?_) <;> simp only [go_sem, ↓reduceIte, Nat.reduceEqDiff, reduceCtorEq, Nat.reduceAdd, Nat.reduceLeDiff, Nat.reduceMul, k1, k2, k5]
    · have hil : i < l.length := by have := of_decide_eq_true q; omega
      have a73 := fun {m draw t d ts Q} => callT_at (m := m) (draw := draw) (s := t) (d := d) (ts := ts) (Q := Q) (f73 ht hk hl hz hil hle)
      simp only [go_sem, ↓reduceIte, Nat.reduceEqDiff, reduceCtorEq, Nat.reduceAdd, Nat.reduceLeDiff, Nat.reduceMul, k1, k2, k5, ht.vc, hk.vc, a73, hw, hH]
      refine brT.intro (fun q2 => ?_) (fun q2 => ?_) <;> simp only [go_sem, ↓reduceIte, Nat.reduceEqDiff, reduceCtorEq, Nat.reduceAdd, Nat.reduceLeDiff, Nat.reduceMul, k1, k2, k5, wrap64 ((i : Int) + 1) (by omega) (by omega)]
      · refine ⟨hil, by simp, fun j hj => ?_⟩
        by_cases e : j = i
        · subst e; exact q2
        · exact hn j (by omega)
      · rw [st_no (fun h => by rw [h.2 i hil] at q2; cases q2)]
    · exact ⟨hH, fun j hj => hn j (by have := of_decide_eq_false q; omega)⟩
  · rintro s ⟨hH, hall⟩
    simp only [go_sem, ↓reduceIte, Nat.reduceEqDiff, reduceCtorEq, Nat.reduceAdd, Nat.reduceLeDiff, Nat.reduceMul, hH]
    rw [st_t.2 ⟨kn_t.1 q0, hall⟩]
end Go.Proofs.Ytpdkgbamakileaa.Ev

/- Sizes, copies and comparisons of what is known and of steps; the law StepsOk. -/
namespace Go.Proofs.Ytpdkgbamakileaa.Ev
set_option linter.all false
open Go
set_option maxRecDepth 4000

end Go.Proofs.Ytpdkgbamakileaa.Ev

/- Steps, one after the other: the small functions. -/
namespace Go.Proofs.Ytpdkgbamakileaa.Ev
set_option linter.all false
open Go
set_option maxRecDepth 4000

theorem f122 {H : Hp} {w : Wy} {t : ByteArray} {id : Nat} (hid : H[id]? = some [.string t]) : Scal EE 122 [vWy w, .pointer (some ⟨id, 0, some 1⟩)] H (.bool (decide (w.1 = t))) := by
  refine scal_ok rfl rfl k122 (by simp [c122]) rfl fun m hw => ?_
  unfold vWy
  simp only [go_sem, ↓reduceIte, Nat.reduceEqDiff, reduceCtorEq, Nat.reduceAdd, Nat.reduceLeDiff, Nat.reduceMul, c122, hid]
theorem f121 {H : Hp} {v : Value} {l : List Wy} {t : ByteArray} {id : Nat} (hl : SlWy H v l) (hid : H[id]? = some [.string t]) : Scal EE 121 [v, .func (.func 122) #[] #[.pointer (some ⟨id, 0, some 1⟩)]] H (.int .i64 (atW l t)) := by
  refine scal_ok rfl rfl k121 (by simp [c121]) rfl fun m hw => ?_
  have hroom := hl.room
  simp only [go_sem, ↓reduceIte, Nat.reduceEqDiff, reduceCtorEq, Nat.reduceAdd, Nat.reduceLeDiff, Nat.reduceMul, c121, hl.len]
  refine go_for l.length (fun i s => s.H = H ∧ s.ρ 0 = .val v ∧ s.ρ 1 = .val (.func (.func 122) #[] #[.pointer (some ⟨id, 0, some 1⟩)]) ∧ s.ρ 7 = .val (.int .i64 l.length) ∧ s.ρ 8 = .val (.int .i64 i) ∧ ∀ j, (h : j < l.length) → j < i → l[j].1 ≠ t) (fun s => s.H = H ∧ ∀ j, (h : j < l.length) → l[j].1 ≠ t) (by simp [upd, ini]) ?_ ?_
  · rintro i s hi ⟨hH, k0, k1, k7, k8, hn⟩
    simp only [go_sem, ↓reduceIte, Nat.reduceEqDiff, reduceCtorEq, Nat.reduceAdd, Nat.reduceLeDiff, Nat.reduceMul, k0, k1, k7, k8]
    refine brT.intro (fun q1 => ?_) (fun q1 => ?_) <;> simp only [go_sem, ↓reduceIte, Nat.reduceEqDiff, reduceCtorEq, Nat.reduceAdd, Nat.reduceLeDiff, Nat.reduceMul, k0, k1, k7, k8]
    · have hil : i < l.length := by have := of_decide_eq_true q1; omega
      obtain ⟨id2, p, o2, ho, hr, hp, hia⟩ := hl.elem (List.getElem?_eq_getElem hil)
      unfold En at hr
      have a122 := fun {m draw t' d ts Q} => callT_at (m := m) (draw := draw) (s := t') (d := d) (ts := ts) (Q := Q) (f122 (w := l[i]) hid)
      unfold vWy at a122
      simp only [go_sem, ↓reduceIte, Nat.reduceEqDiff, reduceCtorEq, Nat.reduceAdd, Nat.reduceLeDiff, Nat.reduceMul, k0, k1, k7, k8, hia, hH, ho, hr, hp, eWy, a122, hw]
      refine brT.intro (fun q2 => ?_) (fun q2 => ?_) <;> simp only [go_sem, ↓reduceIte, Nat.reduceEqDiff, reduceCtorEq, Nat.reduceAdd, Nat.reduceLeDiff, Nat.reduceMul, k0, k1, k7, k8, wrap64 ((i : Int) + 1) (by omega) (by omega)]
      · have q2' := of_decide_eq_true q2
        rw [atW_here hil (fun j hj => hn j (by omega) hj) q2']
      · have q2' := of_decide_eq_false q2
        refine ⟨hil, by simp, fun j hj hji => ?_⟩
        by_cases e : j = i
        · subst e; exact q2'
        · exact hn j hj (by omega)
    · have : i = l.length := by have := of_decide_eq_false q1; omega
      subst this
      exact ⟨hH, fun j hj => hn j hj hj⟩
  · rintro s ⟨hH, hn⟩
    simp only [go_sem, ↓reduceIte, Nat.reduceEqDiff, reduceCtorEq, Nat.reduceAdd, Nat.reduceLeDiff, Nat.reduceMul, hH]
    rw [atW_none hn]
theorem f82 {H : Hp} {v : Value} {l : List Wy} {t : ByteArray} (hl : SlWy H v l) : Scal EE 82 [v, .string t] H (.int .i64 (atW l t)) := by
  refine scal_ok rfl rfl k82 (by simp [c82]) rfl fun m hw => ?_
  have p0 : H <+: H ++ [[.string t]] := List.prefix_append _ _
  have a121 := fun {m draw t' d ts Q} => callT_at (m := m) (draw := draw) (s := t') (d := d) (ts := ts) (Q := Q) (f121 (t := t) (id := H.length) (hl.pre p0) (by simp))
  simp only [go_sem, ↓reduceIte, Nat.reduceEqDiff, reduceCtorEq, Nat.reduceAdd, Nat.reduceLeDiff, Nat.reduceMul, c82, a121, hw.pre p0]
  simp
theorem f116 {H : Hp} {v : Value} {l : List Wy} {t : ByteArray} (hl : SlWy H v l) : Scal EE 116 [v, .string t] H (.int .i64 (atW l t)) := by
  refine scal_ok rfl rfl k116 (by simp [c116]) rfl fun m hw => ?_
  have hroom := hl.room
  simp only [go_sem, ↓reduceIte, Nat.reduceEqDiff, reduceCtorEq, Nat.reduceAdd, Nat.reduceLeDiff, Nat.reduceMul, c116, hl.len]
  refine go_for l.length (fun i s => s.H = H ∧ s.ρ 0 = .val v ∧ s.ρ 1 = .val (.string t) ∧ s.ρ 5 = .val (.int .i64 i) ∧ ∀ j, (h : j < l.length) → j < i → l[j].1 ≠ t) (fun s => s.H = H ∧ ∀ j, (h : j < l.length) → l[j].1 ≠ t) (by simp [upd, ini]) ?_ ?_
  · rintro i s hi ⟨hH, k0, k1, k5, hn⟩
    simp only [go_sem, ↓reduceIte, Nat.reduceEqDiff, reduceCtorEq, Nat.reduceAdd, Nat.reduceLeDiff, Nat.reduceMul, k0, k1, k5, hl.len]
    refine brT.intro (fun q1 => ?_) (fun q1 => ?_) <;> simp only [go_sem, ↓reduceIte, Nat.reduceEqDiff, reduceCtorEq, Nat.reduceAdd, Nat.reduceLeDiff, Nat.reduceMul, k0, k1, k5]
    · have hil : i < l.length := by have := of_decide_eq_true q1; omega
      obtain ⟨id2, p, o2, ho, hr, hp, hia⟩ := hl.elem (List.getElem?_eq_getElem hil)
      unfold En at hr
      have hg : o2[p]? = some (.string l[i].1) := by simpa [eWy] using getElem?_of_take hr (j := 0) (by omega)
      simp only [go_sem, ↓reduceIte, Nat.reduceEqDiff, reduceCtorEq, Nat.reduceAdd, Nat.reduceLeDiff, Nat.reduceMul, k0, k1, k5, hia, hH, ho, hg]
      refine brT.intro (fun q2 => ?_) (fun q2 => ?_) <;> simp only [go_sem, ↓reduceIte, Nat.reduceEqDiff, reduceCtorEq, Nat.reduceAdd, Nat.reduceLeDiff, Nat.reduceMul, k0, k1, k5, wrap64 ((i : Int) + 1) (by omega) (by omega)]
      · have q2' := of_decide_eq_true q2
        rw [atW_here hil (fun j hj => hn j (by omega) hj) q2']
      · have q2' := of_decide_eq_false q2
        refine ⟨hil, by simp, fun j hj hji => ?_⟩
        by_cases e : j = i
        · subst e; exact q2'
        · exact hn j hj (by omega)
    · have : i = l.length := by have := of_decide_eq_false q1; omega
      subst this
      exact ⟨hH, fun j hj => hn j hj hj⟩
  · rintro s ⟨hH, hn⟩
    simp only [go_sem, ↓reduceIte, Nat.reduceEqDiff, reduceCtorEq, Nat.reduceAdd, Nat.reduceLeDiff, Nat.reduceMul, hH]
    rw [atW_none hn]

def wI (k : Int) (o : Option Int) : Int := match o with
  | some n => n
  | none => k
theorem withW_in {kk : List Int} {l : List Wy} {n : Int} (h : n ∈ kk) : withW kk l n = some (-2) := by unfold withW; rw [if_pos h]
theorem withW_no {kk : List Int} {l : List Wy} {n : Int} (h : n ∉ kk) (h2 : atW l (keyB n) = -1) : withW kk l n = none := by unfold withW; rw [if_neg h, if_pos (by omega)]
theorem withW_at {kk : List Int} {l : List Wy} {n : Int} {i : Nat} (h : n ∉ kk) (h2 : atW l (keyB n) = i) : withW kk l n = some (i : Int) := by unfold withW; rw [if_neg h, if_neg (by omega), h2]
theorem f84 {H : Hp} {vt vk vl : Value} {kt : List ByteArray} {kk : List Int} {l : List Wy} {n : Int} (ht : SlS H vt kt) (hk : SlI H vk kk) (hl : SlWy H vl l) :
    Scal EE 84 [.agg #[vt, vk], vl, .int .i64 n] H (.int .i64 (wI (-1) (withW kk l n))) := by
  refine scal_ok rfl rfl k84 (by simp [c84]) rfl fun m hw => ?_
  have a113 := fun {m draw t d ts Q} => callT_at (m := m) (draw := draw) (s := t) (d := d) (ts := ts) (Q := Q) (f113 (a := n) hk)
  have a114 := fun {m draw t d ts Q} => callT_at (m := m) (draw := draw) (s := t) (d := d) (ts := ts) (Q := Q) (f114 (H := H) (n := n))
  have a82 := fun {m draw t d ts Q} => callT_at (m := m) (draw := draw) (s := t) (d := d) (ts := ts) (Q := Q) (f82 (t := keyB n) hl)
  simp only [go_sem, ↓reduceIte, Nat.reduceEqDiff, reduceCtorEq, Nat.reduceAdd, Nat.reduceLeDiff, Nat.reduceMul, c84, ht.vc, hk.vc, a113, hw]
  refine brT.intro (fun q1 => ?_) (fun q1 => ?_) <;> simp only [go_sem, ↓reduceIte, Nat.reduceEqDiff, reduceCtorEq, Nat.reduceAdd, Nat.reduceLeDiff, Nat.reduceMul, ht.vc, hk.vc]
  · rw [withW_in (of_decide_eq_true q1)]
    rfl
  simp only [go_sem, ↓reduceIte, Nat.reduceEqDiff, reduceCtorEq, Nat.reduceAdd, Nat.reduceLeDiff, Nat.reduceMul, a114, a82, hw]
  unfold withW
  rw [if_neg (of_decide_eq_false q1)]
  have := atW_ge l (keyB n)
  by_cases h : atW l (keyB n) < 0
  · rw [if_pos h, show atW l (keyB n) = -1 by omega]; rfl
  · rw [if_neg h]; rfl
theorem f117 {H : Hp} {vt vk vl : Value} {kt : List ByteArray} {kk : List Int} {l : List Wy} {n : Int} (ht : SlS H vt kt) (hk : SlI H vk kk) (hl : SlWy H vl l) (hz : ∀ w ∈ l, w.1.size ≤ 4611686018427387904) (hn : isKey n = true) :
    Scal EE 117 [.agg #[vt, vk], vl, .int .i64 n] H (.int .i64 (wI (-3) (withW kk l n))) := by
  refine scal_ok rfl rfl k117 (by simp [c117]) rfl fun m hw => ?_
  have hroom := hl.room
  have a109 := fun {m draw t d ts Q} => callT_at (m := m) (draw := draw) (s := t) (d := d) (ts := ts) (Q := Q) (f109 (a := n) hk)
  simp only [go_sem, ↓reduceIte, Nat.reduceEqDiff, reduceCtorEq, Nat.reduceAdd, Nat.reduceLeDiff, Nat.reduceMul, c117, ht.vc, hk.vc, a109, hw]
  refine brT.intro (fun q0 => ?_) (fun q0 => ?_) <;> simp only [go_sem, ↓reduceIte, Nat.reduceEqDiff, reduceCtorEq, Nat.reduceAdd, Nat.reduceLeDiff, Nat.reduceMul, ht.vc, hk.vc]
  · rw [withW_in (of_decide_eq_true q0)]
    rfl
  have q0' := of_decide_eq_false q0
  refine go_for l.length (fun i s => s.H = H ∧ s.ρ 1 = .val vl ∧ s.ρ 2 = .val (.int .i64 n) ∧ s.ρ 7 = .val (.int .i64 i) ∧ ∀ j, (h : j < l.length) → j < i → l[j].1 ≠ keyB n) (fun s => s.H = H ∧ ∀ j, (h : j < l.length) → l[j].1 ≠ keyB n) (by simp [upd, ini]) ?_ ?_
  · rintro i s hi ⟨hH, k1, k2, k7, hj0⟩
    simp only [go_sem, ↓reduceIte, Nat.reduceEqDiff, reduceCtorEq, Nat.reduceAdd, Nat.reduceLeDiff, Nat.reduceMul, k1, k2, k7, hl.len]
    refine brT.intro (fun q1 => ?_) (fun q1 => ?_) <;> simp only [go_sem, ↓reduceIte, Nat.reduceEqDiff, reduceCtorEq, Nat.reduceAdd, Nat.reduceLeDiff, Nat.reduceMul, k1, k2, k7]
    · have hil : i < l.length := by have := of_decide_eq_true q1; omega
      obtain ⟨id2, p, o2, ho, hr, hp, hia⟩ := hl.elem (List.getElem?_eq_getElem hil)
      unfold En at hr
      have hg : o2[p]? = some (.string l[i].1) := by simpa [eWy] using getElem?_of_take hr (j := 0) (by omega)
      have a110 := fun {m draw t d ts Q} => callT_at (m := m) (draw := draw) (s := t) (d := d) (ts := ts) (Q := Q) (f110 (H := H) (hz _ (List.getElem_mem hil)))
      have hki := key_iff (s := l[i].1) hn
      have w1 := wrap64 ((i : Int) + 1) (by omega) (by omega)
      have next : ¬ l[i].1 = keyB n → ∀ j, (h : j < l.length) → j < i + 1 → l[j].1 ≠ keyB n := fun h1 j hj hji => by
        by_cases e : j = i
        · subst e; exact h1
        · exact hj0 j hj (by omega)
      simp only [go_sem, ↓reduceIte, Nat.reduceEqDiff, reduceCtorEq, Nat.reduceAdd, Nat.reduceLeDiff, Nat.reduceMul, k1, k2, k7, hia, hH, ho, hg, a110, hw, List.getElem?_toArray, ofV]
      cases q2 : isB l[i].1 107 with
      | false =>
        simp only [go_sem, ↓reduceIte, Nat.reduceEqDiff, reduceCtorEq, Nat.reduceAdd, Nat.reduceLeDiff, Nat.reduceMul, k1, k2, k7, w1]
        exact ⟨hil, by simp, next (fun h => by have := (hki.1 h).1; rw [q2] at this; cases this)⟩
      | true =>
        have d1 : (true = true) = True := by simp
        simp only [go_sem, ↓reduceIte, Nat.reduceEqDiff, reduceCtorEq, Nat.reduceAdd, Nat.reduceLeDiff, Nat.reduceMul, k1, k2, k7, d1]
        refine brT.intro (fun q3 => ?_) (fun q3 => ?_) <;> simp only [go_sem, ↓reduceIte, Nat.reduceEqDiff, reduceCtorEq, Nat.reduceAdd, Nat.reduceLeDiff, Nat.reduceMul, k1, k2, k7, w1]
        · rw [withW_at q0' (atW_here hil (fun j hj => hj0 j (by omega) hj) (hki.2 ⟨q2, by simpa using q3⟩))]
          rfl
        · refine ⟨hil, by simp, next (fun h => ?_)⟩
          have := (hki.1 h).2
          simp [this] at q3
    · have : i = l.length := by have := of_decide_eq_false q1; omega
      subst this
      exact ⟨hH, fun j hj => hj0 j hj hj⟩
  · rintro s ⟨hH, hj0⟩
    simp only [go_sem, ↓reduceIte, Nat.reduceEqDiff, reduceCtorEq, Nat.reduceAdd, Nat.reduceLeDiff, Nat.reduceMul, hH]
    rw [withW_no q0' (atW_none hj0)]
    rfl

theorem Sl.oneWy {m : Md} {N : Nat} {H : Hp} {wp v : Value} {P : List ByteArray} {l : List Wy} (z : Wy) (kp : SlS H wp P) (h : SlWy H v l) (hd : ∀ j ∈ idsOf wp, j ∉ idsOf v) (ho : OwnS N v) (hN : N ≤ H.length) (hw : ∀ id, N ≤ id → m.wr id = true) (hb : l.length ≤ capW) :
    ∃ v' H', (∀ (s : St) (x y : X), s.H = H → exv s.ρ x = some v → ex s.ρ y = .vs 1 (eWy z) → appK m s 3 32 x y = some (.val v', { s with H := H' })) ∧ SlS H' wp P ∧ SlWy H' v' (l ++ [z]) ∧ OwnS N v' ∧
      (∀ j ∈ idsOf wp, j ∉ idsOf v') ∧ ∀ H0 : Hp, H0.length ≤ N → H0 <+: H → H0 <+: H' := by
  have hc : capW = 48708060 := by decide
  obtain ⟨v', H', h1, e2, e3, e4, e5, e6, e7⟩ := h.app (m := m) (n := 1) (bytes := 32) (l2 := [z]) (cs := eWy z) ho hN hw (fun _ => rfl) (by simp) rfl (fun i b hi => by
    cases i with
    | zero => simp at hi; subst hi; rfl
    | succ i => simp at hi) (by unfold Ev.room; simp; omega) (by unfold Ev.room; simp; omega)
  refine ⟨v', H', fun s x y hH hx hy => h1 s x y hH hx (by rw [hy]; rfl), kp.frame (fun _ _ _ h => h) (fun id off e len cap hv => ?_), e2, e3, fun j hj h => ?_, e7⟩
  · have hm : id ∈ idsOf wp := by subst hv; simp [idsOf]
    exact e4 id (kp.ids id hm) (hd id hm)
  · rcases e6 j h with h2 | h2
    · exact hd j hj h2
    · have := kp.ids j hj
      omega
theorem own_newWy {H : Hp} : SlWy (H ++ [[]]) (.slice (some ⟨H.length, 0, some 3⟩) 0 (0 * 3)) [] := .inr ⟨H.length, 0, 0, [], rfl, by simp, by simp, by simp, by simp, fun i a hi => by simp at hi⟩
end Go.Proofs.Ytpdkgbamakileaa.Ev

/- Steps, one after the other: the reference's way. -/
namespace Go.Proofs.Ytpdkgbamakileaa.Ev
set_option linter.all false
open Go
set_option maxRecDepth 4000

theorem begW_gdp {kt : List ByteArray} {kk : List Int} (hk : KnOk kt kk) (i : Nat) : (begW (kt.take i)).length ≤ capW := by
  have := (begW_gd hk).cap hk
  unfold begW at this ⊢
  rw [List.length_map, List.length_take]
  rw [List.length_map] at this
  omega
theorem begW_succ {kt : List ByteArray} {i : Nat} (h : i < kt.length) : begW (kt.take (i + 1)) = begW (kt.take i) ++ [(kt[i], -1, -1)] := by
  unfold begW
  rw [List.take_succ_eq_append_getElem h, List.map_append]
  rfl
theorem seal_lock {t : ByteArray} (h : tOk t = true) : isB t 115 = true ↔ lockI t ≠ 0 := by
  constructor
  · intro h1
    have h2 := lock_key h1
    simp only [isKey, Bool.and_eq_true, decide_eq_true_eq] at h2
    unfold lockI
    rw [if_pos (isB_t.1 h1).2]
    omega
  · intro h1
    unfold lockI at h1
    split at h1
    · rename_i h2
      exact isB_t.2 ⟨h, h2⟩
    · exact absurd rfl h1
theorem lookW_at {kk : List Int} {l : List Wy} {i : Nat} {w : Wy} (h : l[i]? = some w) : lookW kk l i = sealW kk i w.1 (partsW i ((partsB w.1).getD []) l) := by
  unfold lookW
  rw [h]
theorem nilS {H : Hp} : SlS H (.slice none 0 0) [] := .inl ⟨rfl, rfl⟩
theorem nilS_d {v : Value} : ∀ j ∈ idsOf (.slice none 0 0), j ∉ idsOf v := fun j hj => by simp [idsOf] at hj
theorem GdW.size {kt : List ByteArray} {l : List Wy} (h : GdW kt l) : ∀ w ∈ l, w.1.size ≤ 4611686018427387904 := fun w hw => by
  have := (tOk_t.1 (h.2 w hw).1).2.1
  omega

theorem f80 {m : Md} {H0 H : Hp} {vt vk vl : Value} {kt : List ByteArray} {kk : List Int} {l : List Wy} {i : Nat} (ht : SlS H0 vt kt) (hk : SlI H0 vk kk) (hl : SlWy H vl l) (ho : OwnS H0.length vl) (hp : H0 <+: H) (hi : i < l.length) (hg : GdW kt l) (hK : KnOk kt kk) (hw0 : Wr m H0) :
    Fun EE m 80 [.agg #[vt, vk], vl, .int .i64 i] H fun r H' => SlWy H' r (lookW kk l i) ∧ OwnS H0.length r ∧ H0 <+: H' := by
  refine fun_f rfl rfl k80 (by simp [c80]) ?_
  have hc : capW = 48708060 := by decide
  have hw := hw0.pre hp
  obtain ⟨w, hwi⟩ : ∃ w, l[i]? = some w := ⟨_, List.getElem?_eq_getElem hi⟩
  obtain ⟨id, p, o, hid, hr, hpp, hia⟩ := hl.elem hwi
  unfold En at hr
  have hgo : o[p]? = some (.string w.1) := by simpa [eWy] using getElem?_of_take hr (j := 0) (by omega)
  have hwg := hg.2 w (List.mem_of_getElem? hwi)
  have hsz := hg.size w (List.mem_of_getElem? hwi)
  have hps := look_parts hg hwi
  rw [lookW_at hwi]
  generalize w.1 = t at *
  simp only [go_sem, ↓reduceIte, Nat.reduceEqDiff, reduceCtorEq, Nat.reduceAdd, Nat.reduceLeDiff, Nat.reduceMul, c80, hia, hid, hgo]
  refine callT_to (fun m' h => f93 (H := H) hsz h) rfl hw fun r1 H1 ⟨wp, e1, p1, s1, o1⟩ => ?_
  subst e1
  have l1 := hl.pre p1
  have hd1 : ∀ j ∈ idsOf wp, j ∉ idsOf vl := fun j hj h => by
    have := hl.ids j h
    rcases o1 with rfl | ⟨id, e, ln, cap, rfl, hge⟩
    · simp [idsOf] at hj
    · simp [idsOf] at hj
      omega
  generalize (partsB t).getD [] = ps at *
  have gps : ∀ j, GdW kt (partsW i (ps.take j) l) := fun j => partsW_gd i hg fun q hq => hps q (List.mem_of_mem_take hq)
  have cps := fun j => (gps j).cap hK
  simp only [go_sem, ↓reduceIte, Nat.reduceEqDiff, reduceCtorEq, Nat.reduceAdd, Nat.reduceLeDiff, Nat.reduceMul, List.getElem?_toArray, ofV]
  refine go_for ps.length (fun j s => H0 <+: s.H ∧ s.ρ 2 = .val (.int .i64 i) ∧ s.ρ 3 = .bx 0 [vt, vk] ∧ s.ρ 7 = .val (.string t) ∧ s.ρ 8 = .val wp ∧ s.ρ 10 = .val (.int .i64 j) ∧ SlS s.H wp ps ∧ ∃ wv, s.ρ 1 = .val wv ∧ SlWy s.H wv (partsW i (ps.take j) l) ∧ OwnS H0.length wv ∧ ∀ j ∈ idsOf wp, j ∉ idsOf wv)
    (fun s => H0 <+: s.H ∧ s.ρ 2 = .val (.int .i64 i) ∧ s.ρ 3 = .bx 0 [vt, vk] ∧ s.ρ 7 = .val (.string t) ∧ ∃ wv, s.ρ 1 = .val wv ∧ SlWy s.H wv (partsW i ps l) ∧ OwnS H0.length wv) ?_ ?_ ?_
  · exact ⟨hp.trans p1, by simp [upd, ini], by simp [upd], by simp [upd], by simp [upd], by simp [upd], s1, vl, by simp [upd, ini], l1, ho, hd1⟩
  · rintro j s hj ⟨kH, k2, k3, k7, k8, k10, kp, wv, k1, ks, ko, kd⟩
    have kw := hw0.pre kH
    have hroom := kp.room
    simp only [go_sem, ↓reduceIte, Nat.reduceEqDiff, reduceCtorEq, Nat.reduceAdd, Nat.reduceLeDiff, Nat.reduceMul, k1, k2, k3, k7, k8, k10, kp.len]
    refine brT.intro (fun q1 => ?_) (fun q1 => ?_) <;> simp only [go_sem, ↓reduceIte, Nat.reduceEqDiff, reduceCtorEq, Nat.reduceAdd, Nat.reduceLeDiff, Nat.reduceMul, k1, k2, k3, k7, k8, k10]
    · have hjl : j < ps.length := by have := of_decide_eq_true q1; omega
      obtain ⟨id, p, o, ho, hr, hia⟩ := kp.str (List.getElem?_eq_getElem hjl)
      have a116 := fun {m draw t d ts Q} => callT_at (m := m) (draw := draw) (s := t) (d := d) (ts := ts) (Q := Q) (f116 (t := ps[j]) ks)
      have w1 := wrap64 ((j : Int) + 1) (by omega) (by omega)
      have hs := partsW_succ (i := i) (l := l) hjl
      simp only [go_sem, ↓reduceIte, Nat.reduceEqDiff, reduceCtorEq, Nat.reduceAdd, Nat.reduceLeDiff, Nat.reduceMul, k1, k2, k3, k7, k8, k10, hia, ho, hr, a116, kw]
      refine brT.intro (fun q2 => ?_) (fun q2 => ?_) <;> simp only [go_sem, ↓reduceIte, Nat.reduceEqDiff, reduceCtorEq, Nat.reduceAdd, Nat.reduceLeDiff, Nat.reduceMul, k1, k2, k3, k7, k8, k10, hia, ho, hr, w1]
      · obtain ⟨v2, H2, d1, d2, d3, d4, d5, d6⟩ := Sl.oneWy (m := m) (ps[j], (i : Int), -1) kp ks kd ko kH.length_le hw0 (cps j)
        unfold eWy at d1
        rw [d1]
        rotate_left
        · rfl
        · rfl
        · rfl
        simp only [go_sem, ↓reduceIte, Nat.reduceEqDiff, reduceCtorEq, Nat.reduceAdd, Nat.reduceLeDiff, Nat.reduceMul, k1, k2, k3, k7, k8, k10, w1]
        refine ⟨hjl, d6 H0 (Nat.le_refl _) kH, by simp, d2, v2, rfl, ?_, d4, d5⟩
        rw [hs]
        unfold addW
        rw [if_pos (of_decide_eq_true q2)]
        exact d3
      · refine ⟨hjl, kH, by simp, kp, wv, rfl, ?_, ko, kd⟩
        rw [hs]
        unfold addW
        rw [if_neg (of_decide_eq_false q2)]
        exact ks
    · have : j = ps.length := by have := of_decide_eq_false q1; omega
      subst this
      rw [List.take_length] at ks
      exact ⟨kH, wv, rfl, ks, ko⟩
  · rintro s ⟨kH, k2, k3, k7, wv, k1, ks, ko⟩
    have kw := hw0.pre kH
    have gL := gps ps.length
    rw [List.take_length] at gL
    have cL := gL.cap hK
    have kt' := ht.pre kH
    have kk' := hk.pre kH
    have a108 := fun {m draw t' d ts Q} => callT_at (m := m) (draw := draw) (s := t') (d := d) (ts := ts) (Q := Q) (f108 (H := s.H) hsz)
    have hsl := seal_lock hwg.1
    simp only [go_sem, ↓reduceIte, Nat.reduceEqDiff, reduceCtorEq, Nat.reduceAdd, Nat.reduceLeDiff, Nat.reduceMul, k1, k2, k3, k7, a108, kw]
    refine brT.intro (fun q1 => ?_) (fun q1 => ?_) <;> simp only [go_sem, ↓reduceIte, Nat.reduceEqDiff, reduceCtorEq, Nat.reduceAdd, Nat.reduceLeDiff, Nat.reduceMul, k1, k2, k3, k7, kt'.vc, kk'.vc]
    · have hno : ¬ isB t 115 = true := fun h => hsl.1 h (of_decide_eq_true q1)
      unfold sealW
      rw [if_neg hno]
      exact ⟨ks, ko, kH⟩
    have hB : isB t 115 = true := hsl.2 (of_decide_eq_false q1)
    have elk : lockI t = lkS t := by unfold lockI; rw [if_pos (isB_t.1 hB).2]
    have a117 := fun {m draw t d ts Q} => callT_at (m := m) (draw := draw) (s := t) (d := d) (ts := ts) (Q := Q) (f117 kt' kk' ks gL.size (lock_key hB))
    have a100 := fun {m draw t' d ts Q} => callT_at (m := m) (draw := draw) (s := t') (d := d) (ts := ts) (Q := Q) (f100 (H := s.H) (k := lockI t) hsz)
    have ho := open_lock t
    rw [if_pos hB] at ho
    rw [ho] at a100
    rw [elk] at *
    have a116 := fun {m draw t' d ts Q} => callT_at (m := m) (draw := draw) (s := t') (d := d) (ts := ts) (Q := Q) (f116 (t := inS t) ks)
    simp only [go_sem, ↓reduceIte, Nat.reduceEqDiff, reduceCtorEq, Nat.reduceAdd, Nat.reduceLeDiff, Nat.reduceMul, k1, k2, k3, k7, a117, a100, kw, opV, List.getElem?_toArray, ofV]
    unfold sealW
    rw [if_pos hB]
    have hge := atW_ge (partsW i ps l) (keyB (lkS t))
    cases hwq : withW kk (partsW i ps l) (lkS t) with
    | none =>
      have d3 : decide (wI (-3) none > -3) = false := by decide
      simp only [go_sem, ↓reduceIte, Nat.reduceEqDiff, reduceCtorEq, Nat.reduceAdd, Nat.reduceLeDiff, Nat.reduceMul, k1, k2, k3, k7, d3]
      split
      · exact ⟨ks, ko, kH⟩
      · exact ⟨ks, ko, kH⟩
    | some n =>
      have hn : -2 ≤ n := by
        unfold withW at hwq
        split at hwq
        · cases hwq; decide
        · split at hwq
          · cases hwq
          · cases hwq; omega
      have d3 : decide (wI (-3) (some n) > -3) = true := by
        rw [decide_eq_true_eq]
        show n > -3
        omega
      simp only [go_sem, ↓reduceIte, Nat.reduceEqDiff, reduceCtorEq, Nat.reduceAdd, Nat.reduceLeDiff, Nat.reduceMul, k1, k2, k3, k7, d3, a116, kw]
      refine brT.intro (fun q2 => ?_) (fun q2 => ?_) <;> simp only [go_sem, ↓reduceIte, Nat.reduceEqDiff, reduceCtorEq, Nat.reduceAdd, Nat.reduceLeDiff, Nat.reduceMul, k1, k2, k3, k7]
      · obtain ⟨v2, H2, d1, d2, d3, d4, d5, d6⟩ := Sl.oneWy (m := m) (inS t, (i : Int), n) nilS ks nilS_d ko kH.length_le hw0 cL
        unfold eWy at d1
        rw [d1]
        rotate_left
        · rfl
        · rfl
        · rfl
        simp only [go_sem, ↓reduceIte, Nat.reduceEqDiff, reduceCtorEq, Nat.reduceAdd, Nat.reduceLeDiff, Nat.reduceMul]
        rw [if_pos (of_decide_eq_true q2)]
        exact ⟨d3, d4, d6 H0 (Nat.le_refl _) kH⟩
      · rw [if_neg (of_decide_eq_false q2)]
        exact ⟨ks, ko, kH⟩
end Go.Proofs.Ytpdkgbamakileaa.Ev
