/- Texts of this proof, laid one behind the other: what each shows stands at its head. -/
import Derived.Test.YtjepmnmakemfoaaB4
import Derived.Test.YtjepmnmakemfoaaB3
/- Code of the program's functions, as the small machine has it: written by mkcode.py. -/
namespace Go.Proofs.Ytjepmnmakemfoaa.Ev
set_option linter.all false
open Go
def c9 : CF := ⟨63, (.seq (.reg false [⟨(some 2), .none, (.mov (.c (.bool false))), 0, []⟩]) (.seq (.seq (.reg false [⟨(some 11), .none, (.mov (.t 0)), 0, []⟩, ⟨(some 12), .none, (.call 33 [(.t 11)]), 1, []⟩]) (.cond (.t 12) (.seq (.reg false [⟨(some 2), .none, (.mov (.c (.bool true))), 0, []⟩]) .ret) .skip)) (.seq (.reg false [⟨(some 13), .none, (.mov (.t 0)), 0, []⟩, ⟨(some 14), .none, (.call 34 [(.t 13)]), 1, []⟩, ⟨(some 3), .none, (.mov (.t 14)), 2, []⟩]) (.seq (.reg false [⟨(some 16), .none, (.mov (.t 3)), 0, []⟩, ⟨(some 17), .none, (.call 26 [(.t 16)]), 1, []⟩, ⟨(some 18), .none, (.call 32 [(.t 17)]), 2, []⟩, ⟨(some 15), .none, (.mov (.t 18)), 3, []⟩, ⟨(some 19), .none, (.ext (.t 15) 0), 4, []⟩, ⟨(some 20), .none, (.ext (.t 15) 1), 5, []⟩, ⟨(some 4), .none, (.mov (.t 19)), 6, []⟩, ⟨(some 5), .none, (.mov (.t 20)), 7, []⟩]) (.seq (.reg false [⟨(some 21), .none, (.mov (.t 0)), 0, []⟩, ⟨(some 22), .none, (.call 35 [(.t 21)]), 1, []⟩, ⟨(some 6), .none, (.mov (.t 22)), 2, []⟩]) (.seq (.reg false [⟨(some 24), .none, (.mov (.t 6)), 0, []⟩, ⟨(some 25), .none, (.call 32 [(.t 24)]), 1, []⟩, ⟨(some 23), .none, (.mov (.t 25)), 2, []⟩, ⟨(some 26), .none, (.ext (.t 23) 0), 3, []⟩, ⟨(some 27), .none, (.ext (.t 23) 1), 4, []⟩, ⟨(some 7), .none, (.mov (.t 26)), 5, []⟩, ⟨(some 8), .none, (.mov (.t 27)), 6, []⟩]) (.seq (.reg false [⟨(some 29), .none, (.mov (.t 6)), 0, []⟩, ⟨(some 30), .none, (.call 31 [(.t 29)]), 1, []⟩, ⟨(some 28), .none, (.mov (.t 30)), 2, []⟩, ⟨(some 31), .none, (.ext (.t 28) 0), 3, []⟩, ⟨(some 32), .none, (.ext (.t 28) 1), 4, []⟩, ⟨(some 9), .none, (.mov (.t 31)), 5, []⟩, ⟨(some 10), .none, (.mov (.t 32)), 6, []⟩]) (.seq (.reg false [⟨(some 33), .none, (.mov (.t 5)), 0, []⟩, ⟨(some 34), .none, (.mov (.t 3)), 1, []⟩, ⟨(some 35), .none, (.call 16 [(.t 34)]), 2, []⟩, ⟨(some 36), .none, (.beq false (.t 33) (.t 35)), 3, []⟩, ⟨(some 37), .none, (.mov (.t 36)), 4, []⟩, ⟨(some 38), (.some (37, true)), (.mov (.t 5)), 5, []⟩, ⟨(some 39), (.some (37, true)), (.un .not (.t 38)), 6, []⟩, ⟨(some 40), (.some (37, true)), (.mov (.t 39)), 7, []⟩, ⟨(some 41), (.some (40, false)), (.mov (.t 4)), 8, []⟩, ⟨(some 42), (.some (40, false)), (.call 25 [(.t 41)]), 9, []⟩, ⟨(some 43), (.some (40, false)), (.mov (.t 3)), 10, []⟩, ⟨(some 44), (.some (40, false)), (.call 25 [(.t 43)]), 11, []⟩, ⟨(some 45), (.some (40, false)), (.bin .eql (.t 42) (.t 44)), 12, []⟩, ⟨(some 46), (.some (37, true)), (.pick (.t 40) (.c (.bool true)) (.t 45)), 13, []⟩, ⟨(some 47), .none, (.pick (.t 37) (.t 46) (.c (.bool false))), 14, []⟩, ⟨(some 48), .none, (.mov (.t 47)), 15, []⟩, ⟨(some 49), (.some (48, true)), (.mov (.t 8)), 16, []⟩, ⟨(some 50), (.some (48, true)), (.mov (.t 10)), 17, []⟩, ⟨(some 51), (.some (48, true)), (.beq false (.t 49) (.t 50)), 18, []⟩, ⟨(some 52), .none, (.pick (.t 48) (.t 51) (.c (.bool false))), 19, []⟩, ⟨(some 53), .none, (.mov (.t 52)), 20, []⟩, ⟨(some 54), (.some (53, true)), (.mov (.t 8)), 21, []⟩, ⟨(some 55), (.some (53, true)), (.un .not (.t 54)), 22, []⟩, ⟨(some 56), (.some (53, true)), (.mov (.t 55)), 23, []⟩, ⟨(some 57), (.some (56, false)), (.mov (.t 7)), 24, []⟩, ⟨(some 58), (.some (56, false)), (.call 26 [(.t 57)]), 25, []⟩, ⟨(some 59), (.some (56, false)), (.mov (.t 6)), 26, []⟩, ⟨(some 60), (.some (56, false)), (.bin .eql (.t 58) (.t 59)), 27, []⟩, ⟨(some 61), (.some (53, true)), (.pick (.t 56) (.c (.bool true)) (.t 60)), 28, []⟩, ⟨(some 62), .none, (.pick (.t 53) (.t 61) (.c (.bool false))), 29, []⟩, ⟨(some 2), .none, (.mov (.t 62)), 30, []⟩]) .ret)))))))), [(.t 2)]⟩
theorem k9 : EE.fns 9 = some c9 := by kernel_rfl
def c34 : CF := ⟨8, (.seq (.reg false [⟨(some 2), .none, (.mov (.c (.slice .none 0 0))), 0, []⟩]) (.seq (.reg false [⟨(some 4), .none, (.mov (.t 0)), 0, []⟩, ⟨(some 5), .none, (.call 64 [(.t 4)]), 1, []⟩, ⟨(some 3), .none, (.mov (.t 5)), 2, []⟩]) (.seq (.reg false [⟨(some 6), .none, (.mov (.t 3)), 0, []⟩, ⟨(some 7), .none, (.call 65 [(.t 6)]), 1, []⟩, ⟨(some 2), .none, (.mov (.t 7)), 2, []⟩]) .ret))), [(.t 2)]⟩
theorem k34 : EE.fns 34 = some c34 := by kernel_rfl
def c35 : CF := ⟨16, (.seq (.reg false [⟨(some 2), .none, (.mov (.c (.string ⟨#[]⟩))), 0, []⟩]) (.seq (.reg false [⟨(some 5), .none, (.mov (.t 0)), 0, []⟩, ⟨(some 6), .none, (.call 64 [(.t 5)]), 1, []⟩, ⟨(some 3), .none, (.mov (.t 6)), 2, []⟩]) (.seq (.reg false [⟨(some 7), .none, (.mov (.t 3)), 0, []⟩, ⟨(some 8), .none, (.call 65 [(.t 7)]), 1, []⟩, ⟨(some 9), .none, (.call 25 [(.t 8)]), 2, []⟩, ⟨(some 4), .none, (.mov (.t 9)), 3, []⟩]) (.seq (.seq (.reg false [⟨(some 10), .none, (.mov (.t 3)), 0, []⟩, ⟨(some 11), .none, (.call 66 [(.t 10), (.c (.int .i64 3))]), 1, []⟩]) (.cond (.t 11) (.seq (.reg false [⟨(some 12), .none, (.mov (.t 3)), 0, []⟩, ⟨(some 13), .none, (.mov (.t 4)), 1, []⟩, ⟨(some 14), .none, (.call 67 [(.t 12), (.t 13)]), 2, []⟩, ⟨(some 2), .none, (.mov (.t 14)), 3, []⟩]) .ret) .skip)) (.seq (.reg false [⟨(some 15), .none, (.mov (.t 4)), 0, []⟩, ⟨(some 2), .none, (.mov (.t 15)), 1, []⟩]) .ret))))), [(.t 2)]⟩
theorem k35 : EE.fns 35 = some c35 := by kernel_rfl
def c36 : CF := ⟨92, (.seq (.reg false [⟨(some 6), .none, (.mov (.c (.slice .none 0 0))), 0, []⟩, ⟨(some 7), .none, (.mov (.c (.bool false))), 1, []⟩]) (.seq (.seq (.reg false [⟨(some 13), .none, (.mov (.t 0)), 0, []⟩, ⟨(some 14), .none, (.call 16 [(.t 13)]), 1, []⟩, ⟨(some 15), .none, (.un .not (.t 14)), 2, []⟩]) (.cond (.t 15) (.seq (.reg false [⟨(some 16), .none, (.mkO 0 3 [(.int .i64 0), (.int .i64 0), (.int .i64 0)] []), 0, []⟩, ⟨(some 6), .none, (.mov (.t 16)), 1, []⟩, ⟨(some 7), .none, (.mov (.c (.bool false))), 2, []⟩]) .ret) .skip)) (.seq (.reg false [⟨(some 17), .none, (.mkO 0 3 [(.int .i64 0), (.int .i64 0), (.int .i64 0)] []), 0, []⟩, ⟨(some 18), .none, (.mov (.t 0)), 1, []⟩, ⟨(some 19), .none, (.app 3 24 (.t 17) (.t 18)), 2, []⟩, ⟨(some 8), .none, (.mov (.t 19)), 3, []⟩]) (.seq (.reg false [⟨(some 20), .none, (.mov (.t 0)), 0, []⟩, ⟨(some 21), .none, (.mov (.t 1)), 1, []⟩, ⟨(some 22), .none, (.call 68 [(.t 20), (.t 21)]), 2, []⟩, ⟨(some 23), .none, (.bin .add (.t 22) (.c (.int .i64 1))), 3, []⟩, ⟨(some 9), .none, (.mov (.t 23)), 4, []⟩]) (.seq (.seq (.reg false [⟨(some 24), .none, (.mov (.t 1)), 0, []⟩, ⟨(some 25), .none, (.call 52 [(.t 24), (.c (.int .i64 0)), (.c (.int .i64 99))]), 1, []⟩, ⟨(some 26), .none, (.un .not (.t 25)), 2, []⟩, ⟨(some 27), .none, (.mov (.t 26)), 3, []⟩, ⟨(some 28), (.some (27, false)), (.mov (.t 2)), 4, []⟩, ⟨(some 29), (.some (27, false)), (.call 52 [(.t 28), (.c (.int .i64 1)), (.c (.int .i64 1000000))]), 5, []⟩, ⟨(some 30), (.some (27, false)), (.un .not (.t 29)), 6, []⟩, ⟨(some 31), .none, (.pick (.t 27) (.c (.bool true)) (.t 30)), 7, []⟩, ⟨(some 32), .none, (.mov (.t 31)), 8, []⟩, ⟨(some 33), (.some (32, false)), (.mov (.t 0)), 9, []⟩, ⟨(some 34), (.some (32, false)), (.lenS (.t 33)), 10, []⟩, ⟨(some 35), (.some (32, false)), (.bin .geq (.t 34) (.c (.int .i64 20))), 11, []⟩, ⟨(some 36), .none, (.pick (.t 32) (.c (.bool true)) (.t 35)), 12, []⟩, ⟨(some 37), .none, (.mov (.t 36)), 13, []⟩, ⟨(some 38), (.some (37, false)), (.mov (.t 9)), 14, []⟩, ⟨(some 39), (.some (37, false)), (.bin .gtr (.t 38) (.c (.int .i64 1000))), 15, []⟩, ⟨(some 40), .none, (.pick (.t 37) (.c (.bool true)) (.t 39)), 16, []⟩]) (.cond (.t 40) (.seq (.reg false [⟨(some 41), .none, (.mov (.t 8)), 0, []⟩, ⟨(some 6), .none, (.mov (.t 41)), 1, []⟩, ⟨(some 7), .none, (.mov (.c (.bool false))), 2, []⟩]) .ret) .skip)) (.seq (.reg false [⟨(some 42), .none, (.mkO 0 3 [(.int .i64 0), (.int .i64 0), (.int .i64 0)] []), 0, []⟩, ⟨(some 10), .none, (.mov (.t 42)), 1, []⟩]) (.seq (.reg false [⟨(some 11), .none, (.mov (.c (.bool false))), 0, []⟩]) (.seq (.seq (.reg false [⟨(some 12), .none, (.mov (.c (.int .i64 0))), 0, []⟩]) (.block 0 (.loop (.seq (.seq (.reg false [⟨(some 43), .none, (.mov (.t 12)), 0, []⟩, ⟨(some 44), .none, (.mov (.t 0)), 1, []⟩, ⟨(some 45), .none, (.lenS (.t 44)), 2, []⟩, ⟨(some 46), .none, (.bin .lss (.t 43) (.t 45)), 3, []⟩]) (.cond (.t 46) .skip (.exit 0))) (.seq (.block 1 (.seq (.seq (.reg false [⟨(some 49), .none, (.mov (.t 0)), 0, []⟩, ⟨(some 50), .none, (.mov (.t 12)), 1, []⟩, ⟨(some 51), .none, (.iadr 3 (.t 49) (.t 50)), 2, []⟩, ⟨(some 52), .none, (.fadr 2 (.t 51)), 3, []⟩, ⟨(some 53), .none, (.load 1 false (.t 52)), 4, []⟩, ⟨(some 54), .none, (.mov (.t 2)), 5, []⟩, ⟨(some 55), .none, (.bin .eql (.t 53) (.t 54)), 6, []⟩]) (.cond (.t 55) (.seq (.reg false [⟨(some 56), .none, (.mov (.t 8)), 0, []⟩, ⟨(some 6), .none, (.mov (.t 56)), 1, []⟩, ⟨(some 7), .none, (.mov (.c (.bool false))), 2, []⟩]) .ret) .skip)) (.seq (.seq (.reg false [⟨(some 57), .none, (.mov (.t 11)), 0, []⟩, ⟨(some 58), .none, (.un .not (.t 57)), 1, []⟩, ⟨(some 59), .none, (.mov (.t 58)), 2, []⟩, ⟨(some 60), (.some (59, true)), (.mov (.t 0)), 3, []⟩, ⟨(some 61), (.some (59, true)), (.mov (.t 12)), 4, []⟩, ⟨(some 62), (.some (59, true)), (.iadr 3 (.t 60) (.t 61)), 5, []⟩, ⟨(some 63), (.some (59, true)), (.fadr 0 (.t 62)), 6, []⟩, ⟨(some 64), (.some (59, true)), (.load 1 false (.t 63)), 7, []⟩, ⟨(some 65), (.some (59, true)), (.mov (.t 1)), 8, []⟩, ⟨(some 66), (.some (59, true)), (.bin .gtr (.t 64) (.t 65)), 9, []⟩, ⟨(some 67), .none, (.pick (.t 59) (.t 66) (.c (.bool false))), 10, []⟩]) (.cond (.t 67) (.seq (.reg false [⟨(some 68), .none, (.mov (.t 10)), 0, []⟩, ⟨(some 69), .none, (.mov (.t 1)), 1, []⟩, ⟨(some 70), .none, (.mov (.t 9)), 2, []⟩, ⟨(some 71), .none, (.mov (.t 2)), 3, []⟩, ⟨(some 72), .none, (.build [(.int .i64 0), (.int .i64 0), (.int .i64 0)] [(0, (1, (.t 69))), (1, (1, (.t 70))), (2, (1, (.t 71)))]), 4, []⟩, ⟨(some 73), .none, (.mkV 1 3 [(.int .i64 0), (.int .i64 0), (.int .i64 0)] [(0, (.t 72))]), 5, []⟩, ⟨(some 74), .none, (.app 3 24 (.t 68) (.t 73)), 6, []⟩, ⟨(some 10), .none, (.mov (.t 74)), 7, []⟩]) (.reg false [⟨(some 11), .none, (.mov (.c (.bool true))), 0, []⟩])) .skip)) (.reg false [⟨(some 75), .none, (.mov (.t 10)), 0, []⟩, ⟨(some 76), .none, (.mov (.t 0)), 1, []⟩, ⟨(some 77), .none, (.mov (.t 12)), 2, []⟩, ⟨(some 78), .none, (.iadr 3 (.t 76) (.t 77)), 3, []⟩, ⟨(some 79), .none, (.load 3 true (.t 78)), 4, []⟩, ⟨(some 80), .none, (.mkV 1 3 [(.int .i64 0), (.int .i64 0), (.int .i64 0)] [(0, (.t 79))]), 5, []⟩, ⟨(some 81), .none, (.app 3 24 (.t 75) (.t 80)), 6, []⟩, ⟨(some 10), .none, (.mov (.t 81)), 7, []⟩])))) (.reg false [⟨(some 47), .none, (.mov (.t 12)), 0, []⟩, ⟨(some 48), .none, (.bin .add (.t 47) (.c (.int .i64 1))), 1, []⟩, ⟨(some 12), .none, (.mov (.t 48)), 2, []⟩])))))) (.seq (.seq (.reg false [⟨(some 82), .none, (.mov (.t 11)), 0, []⟩, ⟨(some 83), .none, (.un .not (.t 82)), 1, []⟩]) (.cond (.t 83) (.reg false [⟨(some 84), .none, (.mov (.t 10)), 0, []⟩, ⟨(some 85), .none, (.mov (.t 1)), 1, []⟩, ⟨(some 86), .none, (.mov (.t 9)), 2, []⟩, ⟨(some 87), .none, (.mov (.t 2)), 3, []⟩, ⟨(some 88), .none, (.build [(.int .i64 0), (.int .i64 0), (.int .i64 0)] [(0, (1, (.t 85))), (1, (1, (.t 86))), (2, (1, (.t 87)))]), 4, []⟩, ⟨(some 89), .none, (.mkV 1 3 [(.int .i64 0), (.int .i64 0), (.int .i64 0)] [(0, (.t 88))]), 5, []⟩, ⟨(some 90), .none, (.app 3 24 (.t 84) (.t 89)), 6, []⟩, ⟨(some 10), .none, (.mov (.t 90)), 7, []⟩]) .skip)) (.seq (.reg false [⟨(some 91), .none, (.mov (.t 10)), 0, []⟩, ⟨(some 6), .none, (.mov (.t 91)), 1, []⟩, ⟨(some 7), .none, (.mov (.c (.bool true))), 2, []⟩]) .ret)))))))))), [(.t 6), (.t 7)]⟩
theorem k36 : EE.fns 36 = some c36 := by kernel_rfl
def c27 : CF := ⟨52, (.seq (.reg false [⟨(some 4), .none, (.mov (.c (.slice .none 0 0))), 0, []⟩]) (.seq (.reg false [⟨(some 9), .none, (.mkO 0 3 [(.int .i64 0), (.int .i64 0), (.int .i64 0)] []), 0, []⟩, ⟨(some 5), .none, (.mov (.t 9)), 1, []⟩]) (.seq (.seq (.reg false [⟨(some 6), .none, (.mov (.c (.int .i64 0))), 0, []⟩]) (.block 0 (.loop (.seq (.seq (.reg false [⟨(some 10), .none, (.mov (.t 6)), 0, []⟩, ⟨(some 11), .none, (.mov (.t 0)), 1, []⟩, ⟨(some 12), .none, (.lenS (.t 11)), 2, []⟩, ⟨(some 13), .none, (.bin .lss (.t 10) (.t 12)), 3, []⟩, ⟨(some 14), .none, (.mov (.t 13)), 4, []⟩, ⟨(some 15), (.some (14, true)), (.mov (.t 0)), 5, []⟩, ⟨(some 16), (.some (14, true)), (.call 16 [(.t 15)]), 6, []⟩, ⟨(some 17), .none, (.pick (.t 14) (.t 16) (.c (.bool false))), 7, []⟩]) (.cond (.t 17) .skip (.exit 0))) (.seq (.block 1 (.seq (.reg false [⟨(some 7), .none, (.mov (.c (.int .i64 0))), 0, []⟩]) (.seq (.seq (.reg false [⟨(some 20), .none, (.mov (.t 6)), 0, []⟩, ⟨(some 21), .none, (.bin .add (.t 20) (.c (.int .i64 1))), 1, []⟩, ⟨(some 8), .none, (.mov (.t 21)), 2, []⟩]) (.block 2 (.loop (.seq (.seq (.reg false [⟨(some 22), .none, (.mov (.t 8)), 0, []⟩, ⟨(some 23), .none, (.mov (.t 0)), 1, []⟩, ⟨(some 24), .none, (.lenS (.t 23)), 2, []⟩, ⟨(some 25), .none, (.bin .lss (.t 22) (.t 24)), 3, []⟩]) (.cond (.t 25) .skip (.exit 2))) (.seq (.block 3 (.seq (.reg true [⟨(some 28), .none, (.mov (.t 0)), 0, []⟩, ⟨(some 29), .none, (.mov (.t 8)), 1, []⟩, ⟨(some 30), .none, (.iadr 3 (.t 28) (.t 29)), 2, [0, 1]⟩, ⟨(some 31), .none, (.fadr 0 (.t 30)), 3, [2, 0, 1]⟩, ⟨(some 32), .none, (.load 1 false (.t 31)), 4, [3, 2, 0, 1]⟩, ⟨(some 33), .none, (.mov (.t 0)), 5, []⟩, ⟨(some 34), .none, (.mov (.t 6)), 6, []⟩, ⟨(some 35), .none, (.iadr 3 (.t 33) (.t 34)), 7, [5, 6]⟩, ⟨(some 36), .none, (.fadr 0 (.t 35)), 8, [7, 5, 6]⟩, ⟨(some 37), .none, (.load 1 false (.t 36)), 9, [8, 7, 5, 6]⟩, ⟨(some 38), .none, (.bin .eql (.t 32) (.t 37)), 10, [4, 3, 2, 0, 1, 9, 8, 7, 5, 6]⟩]) (.cond (.t 38) (.reg false [⟨(some 39), .none, (.mov (.t 7)), 0, []⟩, ⟨(some 40), .none, (.bin .add (.t 39) (.c (.int .i64 1))), 1, []⟩, ⟨(some 7), .none, (.mov (.t 40)), 2, []⟩]) .skip))) (.reg false [⟨(some 26), .none, (.mov (.t 8)), 0, []⟩, ⟨(some 27), .none, (.bin .add (.t 26) (.c (.int .i64 1))), 1, []⟩, ⟨(some 8), .none, (.mov (.t 27)), 2, []⟩])))))) (.seq (.reg false [⟨(some 41), .none, (.mov (.t 7)), 0, []⟩, ⟨(some 42), .none, (.mov (.t 1)), 1, []⟩, ⟨(some 43), .none, (.bin .lss (.t 41) (.t 42)), 2, []⟩]) (.cond (.t 43) (.reg false [⟨(some 44), .none, (.mov (.t 5)), 0, []⟩, ⟨(some 45), .none, (.mov (.t 0)), 1, []⟩, ⟨(some 46), .none, (.mov (.t 6)), 2, []⟩, ⟨(some 47), .none, (.iadr 3 (.t 45) (.t 46)), 3, []⟩, ⟨(some 48), .none, (.load 3 true (.t 47)), 4, []⟩, ⟨(some 49), .none, (.mkV 1 3 [(.int .i64 0), (.int .i64 0), (.int .i64 0)] [(0, (.t 48))]), 5, []⟩, ⟨(some 50), .none, (.app 3 24 (.t 44) (.t 49)), 6, []⟩, ⟨(some 5), .none, (.mov (.t 50)), 7, []⟩]) .skip))))) (.reg false [⟨(some 18), .none, (.mov (.t 6)), 0, []⟩, ⟨(some 19), .none, (.bin .add (.t 18) (.c (.int .i64 1))), 1, []⟩, ⟨(some 6), .none, (.mov (.t 19)), 2, []⟩])))))) (.seq (.reg false [⟨(some 51), .none, (.mov (.t 5)), 0, []⟩, ⟨(some 4), .none, (.mov (.t 51)), 1, []⟩]) .ret)))), [(.t 4)]⟩
theorem k27 : EE.fns 27 = some c27 := by kernel_rfl
def c64 : CF := ⟨32, (.seq (.reg false [⟨(some 2), .none, (.mov (.c (.pointer .none))), 0, []⟩]) (.seq (.reg false [⟨(some 5), .none, (.mov (.t 0)), 0, []⟩, ⟨(some 6), .none, (.lenS (.t 5)), 1, []⟩, ⟨(some 7), .none, (.bin .add (.c (.int .i64 10101)) (.t 6)), 2, []⟩, ⟨(some 3), .none, (.mov (.t 7)), 3, []⟩]) (.seq (.seq (.reg false [⟨(some 4), .none, (.mov (.c (.int .i64 0))), 0, []⟩]) (.block 0 (.loop (.seq (.seq (.reg false [⟨(some 8), .none, (.mov (.t 4)), 0, []⟩, ⟨(some 9), .none, (.mov (.t 0)), 1, []⟩, ⟨(some 10), .none, (.lenS (.t 9)), 2, []⟩, ⟨(some 11), .none, (.bin .lss (.t 8) (.t 10)), 3, []⟩, ⟨(some 12), .none, (.mov (.t 11)), 4, []⟩, ⟨(some 13), (.some (12, true)), (.mov (.t 4)), 5, []⟩, ⟨(some 14), (.some (12, true)), (.bin .lss (.t 13) (.c (.int .i64 4000))), 6, []⟩, ⟨(some 15), .none, (.pick (.t 12) (.t 14) (.c (.bool false))), 7, []⟩]) (.cond (.t 15) .skip (.exit 0))) (.seq (.block 1 (.reg false [⟨(some 18), .none, (.mov (.t 3)), 0, []⟩, ⟨(some 19), .none, (.bin .mul (.t 18) (.c (.int .i64 131))), 1, []⟩, ⟨(some 20), .none, (.mov (.t 0)), 2, []⟩, ⟨(some 21), .none, (.mov (.t 4)), 3, []⟩, ⟨(some 22), .none, (.iadr 1 (.t 20) (.t 21)), 4, []⟩, ⟨(some 23), .none, (.load 1 false (.t 22)), 5, []⟩, ⟨(some 24), .none, (.toInt .i64 (.t 23)), 6, []⟩, ⟨(some 25), .none, (.bin .add (.t 19) (.t 24)), 7, []⟩, ⟨(some 26), .none, (.bin .add (.t 25) (.c (.int .i64 7))), 8, []⟩, ⟨(some 27), .none, (.bin .and (.t 26) (.c (.int .i64 1073741823))), 9, []⟩, ⟨(some 3), .none, (.mov (.t 27)), 10, []⟩])) (.reg false [⟨(some 16), .none, (.mov (.t 4)), 0, []⟩, ⟨(some 17), .none, (.bin .add (.t 16) (.c (.int .i64 1))), 1, []⟩, ⟨(some 4), .none, (.mov (.t 17)), 2, []⟩])))))) (.seq (.reg false [⟨(some 28), .none, (.mov (.t 0)), 0, []⟩, ⟨(some 29), .none, (.mov (.t 3)), 1, []⟩, ⟨(some 30), .none, (.build [(.slice .none 0 0), (.int .i64 0), (.int .i64 0)] [(0, (1, (.t 28))), (2, (1, (.t 29)))]), 2, []⟩, ⟨(some 31), .none, (.boxO (.t 30)), 3, []⟩, ⟨(some 2), .none, (.mov (.t 31)), 4, []⟩]) .ret)))), [(.t 2)]⟩
theorem k64 : EE.fns 64 = some c64 := by kernel_rfl
def c65 : CF := ⟨76, (.seq (.reg false [⟨(some 2), .none, (.mov (.c (.slice .none 0 0))), 0, []⟩]) (.seq (.reg false [⟨(some 9), .none, (.mkO 0 3 [(.int .i64 0), (.int .i64 0), (.int .i64 0)] []), 0, []⟩, ⟨(some 3), .none, (.mov (.t 9)), 1, []⟩]) (.seq (.reg false [⟨(some 4), .none, (.mov (.c (.int .i64 5))), 0, []⟩]) (.seq (.seq (.reg false [⟨(some 10), .none, (.mov (.t 0)), 0, []⟩, ⟨(some 11), .none, (.call 89 [(.t 10), (.c (.int .i64 12))]), 1, []⟩, ⟨(some 5), .none, (.mov (.t 11)), 2, []⟩]) (.block 0 (.loop (.seq (.seq (.reg false [⟨(some 12), .none, (.mov (.t 5)), 0, []⟩, ⟨(some 13), .none, (.bin .gtr (.t 12) (.c (.int .i64 0))), 1, []⟩]) (.cond (.t 13) .skip (.exit 0))) (.seq (.block 1 (.seq (.reg false [⟨(some 17), .none, (.mov (.t 3)), 0, []⟩, ⟨(some 18), .none, (.mov (.t 0)), 1, []⟩, ⟨(some 19), .none, (.call 89 [(.t 18), (.c (.int .i64 4))]), 2, []⟩, ⟨(some 20), .none, (.mov (.t 4)), 3, []⟩, ⟨(some 21), .none, (.call 36 [(.t 17), (.t 19), (.t 20)]), 4, []⟩, ⟨(some 16), .none, (.mov (.t 21)), 5, []⟩, ⟨(some 22), .none, (.ext (.t 16) 0), 6, []⟩, ⟨(some 23), .none, (.ext (.t 16) 1), 7, []⟩, ⟨(some 6), .none, (.mov (.t 22)), 8, []⟩, ⟨(some 7), .none, (.mov (.t 23)), 9, []⟩]) (.seq (.reg false [⟨(some 24), .none, (.mov (.t 6)), 0, []⟩, ⟨(some 3), .none, (.mov (.t 24)), 1, []⟩]) (.reg false [⟨(some 25), .none, (.mov (.t 4)), 0, []⟩, ⟨(some 26), .none, (.bin .add (.t 25) (.c (.int .i64 1))), 1, []⟩, ⟨(some 27), .none, (.mov (.t 0)), 2, []⟩, ⟨(some 28), .none, (.call 89 [(.t 27), (.c (.int .i64 2))]), 3, []⟩, ⟨(some 29), .none, (.bin .add (.t 26) (.t 28)), 4, []⟩, ⟨(some 4), .none, (.mov (.t 29)), 5, []⟩])))) (.reg false [⟨(some 14), .none, (.mov (.t 5)), 0, []⟩, ⟨(some 15), .none, (.bin .sub (.t 14) (.c (.int .i64 1))), 1, []⟩, ⟨(some 5), .none, (.mov (.t 15)), 2, []⟩])))))) (.seq (.seq (.reg false [⟨(some 30), .none, (.mov (.t 0)), 0, []⟩, ⟨(some 31), .none, (.call 66 [(.t 30), (.c (.int .i64 4))]), 1, []⟩]) (.cond (.t 31) (.reg false [⟨(some 32), .none, (.mov (.t 3)), 0, []⟩, ⟨(some 33), .none, (.mov (.t 0)), 1, []⟩, ⟨(some 34), .none, (.call 89 [(.t 33), (.c (.int .i64 2))]), 2, []⟩, ⟨(some 35), .none, (.bin .add (.c (.int .i64 1)) (.t 34)), 3, []⟩, ⟨(some 36), .none, (.call 27 [(.t 32), (.t 35)]), 4, []⟩, ⟨(some 3), .none, (.mov (.t 36)), 5, []⟩]) .skip)) (.seq (.seq (.reg false [⟨(some 37), .none, (.mov (.t 3)), 0, []⟩, ⟨(some 38), .none, (.lenS (.t 37)), 1, []⟩, ⟨(some 39), .none, (.bin .gtr (.t 38) (.c (.int .i64 0))), 2, []⟩, ⟨(some 40), .none, (.mov (.t 39)), 3, []⟩, ⟨(some 41), (.some (40, true)), (.mov (.t 0)), 4, []⟩, ⟨(some 42), (.some (40, true)), (.call 66 [(.t 41), (.c (.int .i64 10))]), 5, []⟩, ⟨(some 43), .none, (.pick (.t 40) (.t 42) (.c (.bool false))), 6, []⟩]) (.cond (.t 43) (.seq (.reg false [⟨(some 44), .none, (.mov (.t 0)), 0, []⟩, ⟨(some 45), .none, (.mov (.t 3)), 1, []⟩, ⟨(some 46), .none, (.lenS (.t 45)), 2, []⟩, ⟨(some 47), .none, (.call 89 [(.t 44), (.t 46)]), 3, []⟩, ⟨(some 8), .none, (.mov (.t 47)), 4, []⟩]) (.seq (.reg false [⟨(some 48), .none, (.mov (.t 0)), 0, []⟩, ⟨(some 49), .none, (.call 89 [(.t 48), (.c (.int .i64 3))]), 1, []⟩]) (.block 2 (.seq (.reg false [⟨(some 58), .none, (.bin .eql (.t 49) (.c (.int .i64 0))), 0, []⟩, ⟨(some 57), .none, (.mov (.t 58)), 1, []⟩]) (.cond (.t 57) (.reg false [⟨(some 59), .none, (.mov (.t 3)), 0, []⟩, ⟨(some 60), .none, (.mov (.t 8)), 1, []⟩, ⟨(some 61), .none, (.mov (.t 0)), 2, []⟩, ⟨(some 62), .none, (.mkO 4 1 [(.int .i64 0)] [(0, (.c (.int .i64 (-1)))), (1, (.c (.int .i64 1))), (2, (.c (.int .i64 99))), (3, (.c (.int .i64 100)))]), 3, []⟩, ⟨(some 63), .none, (.call 71 [(.t 61), (.t 62)]), 4, []⟩, ⟨(some 64), .none, (.iadr 3 (.t 59) (.t 60)), 5, []⟩, ⟨(some 65), .none, (.fadr 0 (.t 64)), 6, []⟩, ⟨.none, .none, (.store 1 (.t 65) (.t 63)), 7, []⟩]) (.seq (.reg false [⟨(some 67), .none, (.bin .eql (.t 49) (.c (.int .i64 1))), 0, []⟩, ⟨(some 66), .none, (.mov (.t 67)), 1, []⟩]) (.cond (.t 66) (.reg false [⟨(some 68), .none, (.mov (.t 3)), 0, []⟩, ⟨(some 69), .none, (.mov (.t 8)), 1, []⟩, ⟨(some 70), .none, (.mov (.t 0)), 2, []⟩, ⟨(some 71), .none, (.mkO 4 1 [(.int .i64 0)] [(0, (.c (.int .i64 0))), (1, (.c (.int .i64 1))), (2, (.c (.int .i64 1000))), (3, (.c (.int .i64 1001)))]), 3, []⟩, ⟨(some 72), .none, (.call 71 [(.t 70), (.t 71)]), 4, []⟩, ⟨(some 73), .none, (.iadr 3 (.t 68) (.t 69)), 5, []⟩, ⟨(some 74), .none, (.fadr 1 (.t 73)), 6, []⟩, ⟨.none, .none, (.store 1 (.t 74) (.t 72)), 7, []⟩]) (.reg false [⟨(some 50), .none, (.mov (.t 3)), 0, []⟩, ⟨(some 51), .none, (.mov (.t 8)), 1, []⟩, ⟨(some 52), .none, (.mov (.t 0)), 2, []⟩, ⟨(some 53), .none, (.mkO 3 1 [(.int .i64 0)] [(0, (.c (.int .i64 0))), (1, (.c (.int .i64 6))), (2, (.c (.int .i64 1000001)))]), 3, []⟩, ⟨(some 54), .none, (.call 71 [(.t 52), (.t 53)]), 4, []⟩, ⟨(some 55), .none, (.iadr 3 (.t 50) (.t 51)), 5, []⟩, ⟨(some 56), .none, (.fadr 2 (.t 55)), 6, []⟩, ⟨.none, .none, (.store 1 (.t 56) (.t 54)), 7, []⟩])))))))) .skip)) (.seq (.reg false [⟨(some 75), .none, (.mov (.t 3)), 0, []⟩, ⟨(some 2), .none, (.mov (.t 75)), 1, []⟩]) .ret))))))), [(.t 2)]⟩
theorem k65 : EE.fns 65 = some c65 := by kernel_rfl
def c66 : CF := ⟨9, (.seq (.reg false [⟨(some 4), .none, (.mov (.c (.bool false))), 0, []⟩]) (.seq (.reg false [⟨(some 5), .none, (.mov (.t 0)), 0, []⟩, ⟨(some 6), .none, (.mov (.t 1)), 1, []⟩, ⟨(some 7), .none, (.call 89 [(.t 5), (.t 6)]), 2, []⟩, ⟨(some 8), .none, (.bin .eql (.t 7) (.c (.int .i64 0))), 3, []⟩, ⟨(some 4), .none, (.mov (.t 8)), 4, []⟩]) .ret)), [(.t 4)]⟩
theorem k66 : EE.fns 66 = some c66 := by kernel_rfl
def c67 : CF := ⟨67, (.seq (.reg false [⟨(some 4), .none, (.mov (.c (.string ⟨#[]⟩))), 0, []⟩]) (.seq (.seq (.reg false [⟨(some 6), .none, (.mov (.t 1)), 0, []⟩, ⟨(some 7), .none, (.lenT (.t 6)), 1, []⟩, ⟨(some 8), .none, (.bin .eql (.t 7) (.c (.int .i64 0))), 2, []⟩]) (.cond (.t 8) (.seq (.reg false [⟨(some 9), .none, (.mov (.t 0)), 0, []⟩, ⟨(some 10), .none, (.call 90 [(.t 9), (.c (.int .i64 3))]), 1, []⟩, ⟨(some 4), .none, (.mov (.t 10)), 2, []⟩]) .ret) .skip)) (.seq (.reg false [⟨(some 11), .none, (.mov (.t 0)), 0, []⟩, ⟨(some 12), .none, (.mov (.t 1)), 1, []⟩, ⟨(some 13), .none, (.lenT (.t 12)), 2, []⟩, ⟨(some 14), .none, (.call 89 [(.t 11), (.t 13)]), 3, []⟩, ⟨(some 5), .none, (.mov (.t 14)), 4, []⟩]) (.seq (.seq (.reg false [⟨(some 15), .none, (.mov (.t 0)), 0, []⟩, ⟨(some 16), .none, (.call 89 [(.t 15), (.c (.int .i64 4))]), 1, []⟩]) (.block 0 (.seq (.reg false [⟨(some 18), .none, (.bin .eql (.t 16) (.c (.int .i64 0))), 0, []⟩, ⟨(some 17), .none, (.mov (.t 18)), 1, []⟩]) (.cond (.t 17) (.seq (.reg true [⟨(some 19), .none, (.mov (.t 1)), 0, []⟩, ⟨(some 20), .none, (.mov (.t 5)), 1, []⟩, ⟨(some 21), .none, (.slcS (.t 19) .none (.some (.t 20))), 2, [0, 1]⟩, ⟨(some 22), .none, (.mov (.t 1)), 3, []⟩, ⟨(some 23), .none, (.mov (.t 5)), 4, []⟩, ⟨(some 24), .none, (.bin .add (.t 23) (.c (.int .i64 1))), 5, [4]⟩, ⟨(some 25), .none, (.slcS (.t 22) (.some (.t 24)) .none), 6, [3, 5, 4]⟩, ⟨(some 26), .none, (.bin .add (.t 21) (.t 25)), 7, [2, 0, 1, 6, 3, 5, 4]⟩, ⟨(some 4), .none, (.mov (.t 26)), 8, [7, 2, 0, 1, 6, 3, 5, 4]⟩]) .ret) (.seq (.reg false [⟨(some 28), .none, (.bin .eql (.t 16) (.c (.int .i64 1))), 0, []⟩, ⟨(some 27), .none, (.mov (.t 28)), 1, []⟩]) (.cond (.t 27) (.seq (.reg true [⟨(some 29), .none, (.mov (.t 1)), 0, []⟩, ⟨(some 30), .none, (.mov (.t 5)), 1, []⟩, ⟨(some 31), .none, (.slcS (.t 29) .none (.some (.t 30))), 2, [0, 1]⟩, ⟨(some 32), .none, (.mov (.t 0)), 3, []⟩, ⟨(some 33), .none, (.call 91 [(.t 32)]), 4, [3]⟩, ⟨(some 34), .none, (.toInt .u8 (.t 33)), 5, [4, 3]⟩, ⟨(some 35), .none, (.mkO 1 1 [(.int .u8 0)] [(0, (.t 34))]), 6, [5, 4, 3]⟩, ⟨(some 36), .none, (.b2s (.t 35)), 7, [6, 5, 4, 3]⟩, ⟨(some 37), .none, (.bin .add (.t 31) (.t 36)), 8, [2, 0, 1, 7, 6, 5, 4, 3]⟩, ⟨(some 38), .none, (.mov (.t 1)), 9, []⟩, ⟨(some 39), .none, (.mov (.t 5)), 10, []⟩, ⟨(some 40), .none, (.slcS (.t 38) (.some (.t 39)) .none), 11, [9, 10]⟩, ⟨(some 41), .none, (.bin .add (.t 37) (.t 40)), 12, [8, 2, 0, 1, 7, 6, 5, 4, 3, 11, 9, 10]⟩, ⟨(some 4), .none, (.mov (.t 41)), 13, [12, 8, 2, 0, 1, 7, 6, 5, 4, 3, 11, 9, 10]⟩]) .ret) (.seq (.reg false [⟨(some 43), .none, (.bin .eql (.t 16) (.c (.int .i64 2))), 0, []⟩, ⟨(some 42), .none, (.mov (.t 43)), 1, []⟩]) (.cond (.t 42) (.seq (.reg false [⟨(some 44), .none, (.mov (.t 1)), 0, []⟩, ⟨(some 45), .none, (.mov (.t 5)), 1, []⟩, ⟨(some 46), .none, (.slcS (.t 44) .none (.some (.t 45))), 2, []⟩, ⟨(some 4), .none, (.mov (.t 46)), 3, []⟩]) .ret) .skip)))))))) (.seq (.reg true [⟨(some 47), .none, (.mov (.t 1)), 0, []⟩, ⟨(some 48), .none, (.mov (.t 5)), 1, []⟩, ⟨(some 49), .none, (.slcS (.t 47) .none (.some (.t 48))), 2, [0, 1]⟩, ⟨(some 50), .none, (.mov (.t 1)), 3, []⟩, ⟨(some 51), .none, (.mov (.t 5)), 4, []⟩, ⟨(some 52), .none, (.idx (.t 50) (.t 51)), 5, [3, 4]⟩, ⟨(some 53), .none, (.toInt .i64 (.t 52)), 6, [5, 3, 4]⟩, ⟨(some 54), .none, (.mov (.t 0)), 7, []⟩, ⟨(some 55), .none, (.call 89 [(.t 54), (.c (.int .i64 255))]), 8, [7]⟩, ⟨(some 56), .none, (.bin .add (.c (.int .i64 1)) (.t 55)), 9, [8, 7]⟩, ⟨(some 57), .none, (.bin .xor (.t 53) (.t 56)), 10, [6, 5, 3, 4, 9, 8, 7]⟩, ⟨(some 58), .none, (.toInt .u8 (.t 57)), 11, [10, 6, 5, 3, 4, 9, 8, 7]⟩, ⟨(some 59), .none, (.mkO 1 1 [(.int .u8 0)] [(0, (.t 58))]), 12, [11, 10, 6, 5, 3, 4, 9, 8, 7]⟩, ⟨(some 60), .none, (.b2s (.t 59)), 13, [12, 11, 10, 6, 5, 3, 4, 9, 8, 7]⟩, ⟨(some 61), .none, (.bin .add (.t 49) (.t 60)), 14, [2, 0, 1, 13, 12, 11, 10, 6, 5, 3, 4, 9, 8, 7]⟩, ⟨(some 62), .none, (.mov (.t 1)), 15, []⟩, ⟨(some 63), .none, (.mov (.t 5)), 16, []⟩, ⟨(some 64), .none, (.bin .add (.t 63) (.c (.int .i64 1))), 17, [16]⟩, ⟨(some 65), .none, (.slcS (.t 62) (.some (.t 64)) .none), 18, [15, 17, 16]⟩, ⟨(some 66), .none, (.bin .add (.t 61) (.t 65)), 19, [14, 2, 0, 1, 13, 12, 11, 10, 6, 5, 3, 4, 9, 8, 7, 18, 15, 17, 16]⟩, ⟨(some 4), .none, (.mov (.t 66)), 20, [19, 14, 2, 0, 1, 13, 12, 11, 10, 6, 5, 3, 4, 9, 8, 7, 18, 15, 17, 16]⟩]) .ret))))), [(.t 4)]⟩
theorem k67 : EE.fns 67 = some c67 := by kernel_rfl
def c68 : CF := ⟨26, (.seq (.reg false [⟨(some 4), .none, (.mov (.c (.int .i64 0))), 0, []⟩]) (.seq (.reg false [⟨(some 5), .none, (.mov (.c (.int .i64 0))), 0, []⟩]) (.seq (.seq (.reg false [⟨(some 6), .none, (.mov (.c (.int .i64 0))), 0, []⟩]) (.block 0 (.loop (.seq (.seq (.reg false [⟨(some 7), .none, (.mov (.t 6)), 0, []⟩, ⟨(some 8), .none, (.mov (.t 0)), 1, []⟩, ⟨(some 9), .none, (.lenS (.t 8)), 2, []⟩, ⟨(some 10), .none, (.bin .lss (.t 7) (.t 9)), 3, []⟩]) (.cond (.t 10) .skip (.exit 0))) (.seq (.block 1 (.seq (.reg false [⟨(some 13), .none, (.mov (.t 0)), 0, []⟩, ⟨(some 14), .none, (.mov (.t 6)), 1, []⟩, ⟨(some 15), .none, (.iadr 3 (.t 13) (.t 14)), 2, []⟩, ⟨(some 16), .none, (.fadr 0 (.t 15)), 3, []⟩, ⟨(some 17), .none, (.load 1 false (.t 16)), 4, []⟩, ⟨(some 18), .none, (.mov (.t 1)), 5, []⟩, ⟨(some 19), .none, (.bin .eql (.t 17) (.t 18)), 6, []⟩]) (.cond (.t 19) (.reg false [⟨(some 20), .none, (.mov (.t 0)), 0, []⟩, ⟨(some 21), .none, (.mov (.t 6)), 1, []⟩, ⟨(some 22), .none, (.iadr 3 (.t 20) (.t 21)), 2, []⟩, ⟨(some 23), .none, (.fadr 1 (.t 22)), 3, []⟩, ⟨(some 24), .none, (.load 1 false (.t 23)), 4, []⟩, ⟨(some 5), .none, (.mov (.t 24)), 5, []⟩]) .skip))) (.reg false [⟨(some 11), .none, (.mov (.t 6)), 0, []⟩, ⟨(some 12), .none, (.bin .add (.t 11) (.c (.int .i64 1))), 1, []⟩, ⟨(some 6), .none, (.mov (.t 12)), 2, []⟩])))))) (.seq (.reg false [⟨(some 25), .none, (.mov (.t 5)), 0, []⟩, ⟨(some 4), .none, (.mov (.t 25)), 1, []⟩]) .ret)))), [(.t 4)]⟩
theorem k68 : EE.fns 68 = some c68 := by kernel_rfl
def c71 : CF := ⟨12, (.seq (.reg false [⟨(some 4), .none, (.mov (.c (.int .i64 0))), 0, []⟩]) (.seq (.reg false [⟨(some 5), .none, (.mov (.t 1)), 0, []⟩, ⟨(some 6), .none, (.mov (.t 0)), 1, []⟩, ⟨(some 7), .none, (.mov (.t 1)), 2, []⟩, ⟨(some 8), .none, (.lenS (.t 7)), 3, []⟩, ⟨(some 9), .none, (.call 89 [(.t 6), (.t 8)]), 4, []⟩, ⟨(some 10), .none, (.iadr 1 (.t 5) (.t 9)), 5, []⟩, ⟨(some 11), .none, (.load 1 false (.t 10)), 6, []⟩, ⟨(some 4), .none, (.mov (.t 11)), 7, []⟩]) .ret)), [(.t 4)]⟩
theorem k71 : EE.fns 71 = some c71 := by kernel_rfl
def c89 : CF := ⟨37, (.seq (.reg false [⟨(some 4), .none, (.mov (.c (.int .i64 0))), 0, []⟩]) (.seq (.seq (.reg false [⟨(some 9), .none, (.mov (.t 1)), 0, []⟩, ⟨(some 10), .none, (.bin .leq (.t 9) (.c (.int .i64 0))), 1, []⟩]) (.cond (.t 10) (.seq (.reg false [⟨(some 4), .none, (.mov (.c (.int .i64 0))), 0, []⟩]) .ret) .skip)) (.seq (.seq (.reg false [⟨(some 11), .none, (.mov (.t 1)), 0, []⟩, ⟨(some 12), .none, (.bin .leq (.t 11) (.c (.int .i64 256))), 1, []⟩]) (.cond (.t 12) (.seq (.reg false [⟨(some 13), .none, (.mov (.t 0)), 0, []⟩, ⟨(some 14), .none, (.call 91 [(.t 13)]), 1, []⟩, ⟨(some 15), .none, (.mov (.t 1)), 2, []⟩, ⟨(some 16), .none, (.bin .rem (.t 14) (.t 15)), 3, []⟩, ⟨(some 4), .none, (.mov (.t 16)), 4, []⟩]) .ret) .skip)) (.seq (.reg false [⟨(some 17), .none, (.mov (.t 0)), 0, []⟩, ⟨(some 18), .none, (.call 91 [(.t 17)]), 1, []⟩, ⟨(some 5), .none, (.mov (.t 18)), 2, []⟩]) (.seq (.reg false [⟨(some 19), .none, (.mov (.t 0)), 0, []⟩, ⟨(some 20), .none, (.call 91 [(.t 19)]), 1, []⟩, ⟨(some 6), .none, (.mov (.t 20)), 2, []⟩]) (.seq (.reg false [⟨(some 21), .none, (.mov (.t 0)), 0, []⟩, ⟨(some 22), .none, (.call 91 [(.t 21)]), 1, []⟩, ⟨(some 7), .none, (.mov (.t 22)), 2, []⟩]) (.seq (.reg false [⟨(some 23), .none, (.mov (.t 0)), 0, []⟩, ⟨(some 24), .none, (.call 91 [(.t 23)]), 1, []⟩, ⟨(some 8), .none, (.mov (.t 24)), 2, []⟩]) (.seq (.reg false [⟨(some 25), .none, (.mov (.t 5)), 0, []⟩, ⟨(some 26), .none, (.bin .mul (.t 25) (.c (.int .i64 16777216))), 1, []⟩, ⟨(some 27), .none, (.mov (.t 6)), 2, []⟩, ⟨(some 28), .none, (.bin .mul (.t 27) (.c (.int .i64 65536))), 3, []⟩, ⟨(some 29), .none, (.bin .add (.t 26) (.t 28)), 4, []⟩, ⟨(some 30), .none, (.mov (.t 7)), 5, []⟩, ⟨(some 31), .none, (.bin .mul (.t 30) (.c (.int .i64 256))), 6, []⟩, ⟨(some 32), .none, (.bin .add (.t 29) (.t 31)), 7, []⟩, ⟨(some 33), .none, (.mov (.t 8)), 8, []⟩, ⟨(some 34), .none, (.bin .add (.t 32) (.t 33)), 9, []⟩, ⟨(some 35), .none, (.mov (.t 1)), 10, []⟩, ⟨(some 36), .none, (.bin .rem (.t 34) (.t 35)), 11, []⟩, ⟨(some 4), .none, (.mov (.t 36)), 12, []⟩]) .ret)))))))), [(.t 4)]⟩
theorem k89 : EE.fns 89 = some c89 := by kernel_rfl
def c90 : CF := ⟨38, (.seq (.reg false [⟨(some 4), .none, (.mov (.c (.string ⟨#[]⟩))), 0, []⟩]) (.seq (.reg false [⟨(some 9), .none, (.mkO 0 1 [(.int .u8 0)] []), 0, []⟩, ⟨(some 5), .none, (.mov (.t 9)), 1, []⟩]) (.seq (.reg false [⟨(some 10), .none, (.mov (.t 0)), 0, []⟩, ⟨(some 11), .none, (.call 89 [(.t 10), (.c (.int .i64 4))]), 1, []⟩, ⟨(some 6), .none, (.mov (.t 11)), 2, []⟩]) (.seq (.seq (.reg false [⟨(some 12), .none, (.mov (.t 0)), 0, []⟩, ⟨(some 13), .none, (.mov (.t 1)), 1, []⟩, ⟨(some 14), .none, (.bin .add (.t 13) (.c (.int .i64 1))), 2, []⟩, ⟨(some 15), .none, (.call 89 [(.t 12), (.t 14)]), 3, []⟩, ⟨(some 7), .none, (.mov (.t 15)), 4, []⟩]) (.block 0 (.loop (.seq (.seq (.reg false [⟨(some 16), .none, (.mov (.t 7)), 0, []⟩, ⟨(some 17), .none, (.bin .gtr (.t 16) (.c (.int .i64 0))), 1, []⟩]) (.cond (.t 17) .skip (.exit 0))) (.seq (.block 1 (.seq (.reg false [⟨(some 20), .none, (.mov (.t 0)), 0, []⟩, ⟨(some 21), .none, (.call 91 [(.t 20)]), 1, []⟩, ⟨(some 8), .none, (.mov (.t 21)), 2, []⟩]) (.seq (.seq (.reg false [⟨(some 22), .none, (.mov (.t 6)), 0, []⟩, ⟨(some 23), .none, (.bin .eql (.t 22) (.c (.int .i64 1))), 1, []⟩]) (.cond (.t 23) (.reg false [⟨(some 24), .none, (.mov (.t 8)), 0, []⟩, ⟨(some 25), .none, (.bin .rem (.t 24) (.c (.int .i64 2))), 1, []⟩, ⟨(some 8), .none, (.mov (.t 25)), 2, []⟩]) .skip)) (.seq (.seq (.reg false [⟨(some 26), .none, (.mov (.t 6)), 0, []⟩, ⟨(some 27), .none, (.bin .eql (.t 26) (.c (.int .i64 2))), 1, []⟩]) (.cond (.t 27) (.reg false [⟨(some 28), .none, (.mov (.t 8)), 0, []⟩, ⟨(some 29), .none, (.bin .rem (.t 28) (.c (.int .i64 4))), 1, []⟩, ⟨(some 30), .none, (.bin .add (.c (.int .i64 97)) (.t 29)), 2, []⟩, ⟨(some 8), .none, (.mov (.t 30)), 3, []⟩]) .skip)) (.reg false [⟨(some 31), .none, (.mov (.t 5)), 0, []⟩, ⟨(some 32), .none, (.mov (.t 8)), 1, []⟩, ⟨(some 33), .none, (.toInt .u8 (.t 32)), 2, []⟩, ⟨(some 34), .none, (.mkV 1 1 [(.int .u8 0)] [(0, (.t 33))]), 3, []⟩, ⟨(some 35), .none, (.app 1 1 (.t 31) (.t 34)), 4, []⟩, ⟨(some 5), .none, (.mov (.t 35)), 5, []⟩]))))) (.reg false [⟨(some 18), .none, (.mov (.t 7)), 0, []⟩, ⟨(some 19), .none, (.bin .sub (.t 18) (.c (.int .i64 1))), 1, []⟩, ⟨(some 7), .none, (.mov (.t 19)), 2, []⟩])))))) (.seq (.reg false [⟨(some 36), .none, (.mov (.t 5)), 0, []⟩, ⟨(some 37), .none, (.b2s (.t 36)), 1, []⟩, ⟨(some 4), .none, (.mov (.t 37)), 2, []⟩]) .ret))))), [(.t 4)]⟩
theorem k90 : EE.fns 90 = some c90 := by kernel_rfl
def c91 : CF := ⟨58, (.seq (.reg false [⟨(some 2), .none, (.mov (.c (.int .i64 0))), 0, []⟩]) (.seq (.reg false [⟨(some 4), .none, (.mov (.t 0)), 0, []⟩, ⟨(some 5), .none, (.mov (.t 0)), 1, []⟩, ⟨(some 6), .none, (.nilc (.t 5)), 2, []⟩, ⟨(some 7), .none, (.fadr 2 (.t 6)), 3, []⟩, ⟨(some 8), .none, (.load 1 false (.t 7)), 4, []⟩, ⟨(some 9), .none, (.bin .mul (.t 8) (.c (.int .i64 6364136223846793005))), 5, []⟩, ⟨(some 10), .none, (.bin .add (.t 9) (.c (.int .i64 1442695040888963407))), 6, []⟩, ⟨(some 11), .none, (.nilc (.t 4)), 7, []⟩, ⟨(some 12), .none, (.fadr 2 (.t 11)), 8, []⟩, ⟨.none, .none, (.store 1 (.t 12) (.t 10)), 9, []⟩]) (.seq (.reg true [⟨(some 13), .none, (.mov (.t 0)), 0, []⟩, ⟨(some 14), .none, (.nilc (.t 13)), 1, [0]⟩, ⟨(some 15), .none, (.fadr 2 (.t 14)), 2, [1, 0]⟩, ⟨(some 16), .none, (.load 1 false (.t 15)), 3, [2, 1, 0]⟩, ⟨(some 17), .none, (.bin .shr (.t 16) (.c (.int .u64 33))), 4, [3, 2, 1, 0]⟩, ⟨(some 18), .none, (.mov (.t 0)), 5, []⟩, ⟨(some 19), .none, (.nilc (.t 18)), 6, [5]⟩, ⟨(some 20), .none, (.fadr 2 (.t 19)), 7, [6, 5]⟩, ⟨(some 21), .none, (.load 1 false (.t 20)), 8, [7, 6, 5]⟩, ⟨(some 22), .none, (.bin .shr (.t 21) (.c (.int .u64 45))), 9, [8, 7, 6, 5]⟩, ⟨(some 23), .none, (.bin .xor (.t 17) (.t 22)), 10, [4, 3, 2, 1, 0, 9, 8, 7, 6, 5]⟩, ⟨(some 24), .none, (.bin .and (.t 23) (.c (.int .i64 255))), 11, [10, 4, 3, 2, 1, 0, 9, 8, 7, 6, 5]⟩, ⟨(some 3), .none, (.mov (.t 24)), 12, [11, 10, 4, 3, 2, 1, 0, 9, 8, 7, 6, 5]⟩]) (.seq (.seq (.reg true [⟨(some 25), .none, (.mov (.t 0)), 0, []⟩, ⟨(some 26), .none, (.nilc (.t 25)), 1, [0]⟩, ⟨(some 27), .none, (.fadr 1 (.t 26)), 2, [1, 0]⟩, ⟨(some 28), .none, (.load 1 false (.t 27)), 3, [2, 1, 0]⟩, ⟨(some 29), .none, (.mov (.t 0)), 4, []⟩, ⟨(some 30), .none, (.nilc (.t 29)), 5, [4]⟩, ⟨(some 31), .none, (.fadr 0 (.t 30)), 6, [5, 4]⟩, ⟨(some 32), .none, (.load 1 false (.t 31)), 7, [6, 5, 4]⟩, ⟨(some 33), .none, (.lenS (.t 32)), 8, [7, 6, 5, 4]⟩, ⟨(some 34), .none, (.bin .lss (.t 28) (.t 33)), 9, [3, 2, 1, 0, 8, 7, 6, 5, 4]⟩]) (.cond (.t 34) (.seq (.reg true [⟨(some 35), .none, (.mov (.t 3)), 0, []⟩, ⟨(some 36), .none, (.mov (.t 0)), 1, []⟩, ⟨(some 37), .none, (.nilc (.t 36)), 2, [1]⟩, ⟨(some 38), .none, (.fadr 0 (.t 37)), 3, [2, 1]⟩, ⟨(some 39), .none, (.load 1 false (.t 38)), 4, [3, 2, 1]⟩, ⟨(some 40), .none, (.mov (.t 0)), 5, []⟩, ⟨(some 41), .none, (.nilc (.t 40)), 6, [5]⟩, ⟨(some 42), .none, (.fadr 1 (.t 41)), 7, [6, 5]⟩, ⟨(some 43), .none, (.load 1 false (.t 42)), 8, [7, 6, 5]⟩, ⟨(some 44), .none, (.iadr 1 (.t 39) (.t 43)), 9, [4, 3, 2, 1, 8, 7, 6, 5]⟩, ⟨(some 45), .none, (.load 1 false (.t 44)), 10, [9, 4, 3, 2, 1, 8, 7, 6, 5]⟩, ⟨(some 46), .none, (.toInt .i64 (.t 45)), 11, [10, 9, 4, 3, 2, 1, 8, 7, 6, 5]⟩, ⟨(some 47), .none, (.bin .add (.t 35) (.t 46)), 12, [0, 11, 10, 9, 4, 3, 2, 1, 8, 7, 6, 5]⟩, ⟨(some 48), .none, (.bin .and (.t 47) (.c (.int .i64 255))), 13, [12, 0, 11, 10, 9, 4, 3, 2, 1, 8, 7, 6, 5]⟩, ⟨(some 3), .none, (.mov (.t 48)), 14, [13, 12, 0, 11, 10, 9, 4, 3, 2, 1, 8, 7, 6, 5]⟩]) (.reg false [⟨(some 49), .none, (.mov (.t 0)), 0, []⟩, ⟨(some 50), .none, (.mov (.t 0)), 1, []⟩, ⟨(some 51), .none, (.nilc (.t 50)), 2, []⟩, ⟨(some 52), .none, (.fadr 1 (.t 51)), 3, []⟩, ⟨(some 53), .none, (.load 1 false (.t 52)), 4, []⟩, ⟨(some 54), .none, (.bin .add (.t 53) (.c (.int .i64 1))), 5, []⟩, ⟨(some 55), .none, (.nilc (.t 49)), 6, []⟩, ⟨(some 56), .none, (.fadr 1 (.t 55)), 7, []⟩, ⟨.none, .none, (.store 1 (.t 56) (.t 54)), 8, []⟩])) .skip)) (.seq (.reg false [⟨(some 57), .none, (.mov (.t 3)), 0, []⟩, ⟨(some 2), .none, (.mov (.t 57)), 1, []⟩]) .ret))))), [(.t 2)]⟩
theorem k91 : EE.fns 91 = some c91 := by kernel_rfl
end Go.Proofs.Ytjepmnmakemfoaa.Ev

/- Draws: the cursor, numbers, choices and texts drawn by it. -/
namespace Go.Proofs.Ytjepmnmakemfoaa.Ev
set_option linter.all false
open Go
set_option maxRecDepth 4000

theorem fun_t {E : Env} {m : Md} {f : Nat} {cf : CF} {vs : List Value} {H : Hp} {Q : Value → Hp → Prop} (ht : E.tr f = true) (hp : E.prim f = none) (hf : E.fns f = some cf) (hl : vs.length ≤ cf.nt)
    (h : ∀ m' : Md, (∀ id, m'.wr id = m.wr id) → go E m' [.c cf.body] { ρ := ini vs, gn := 0, H := H } (Post cf.res true H Q)) : Fun E m f vs H Q :=
  fun_ok ht hp hf hl (h _ fun _ => rfl)
theorem callD {E : Env} {m : Md} {f : Nat} {vs : List Value} {H : Hp} {P : Value → Hp → Prop} {s : St} {d : Option Nat} {ts : List Tk} {Q : Ex → St → Prop} (h : Fun E m f vs H P) (hH : s.H = H)
    (hq : ∀ r H', P r H' → go E m ts { s with H := H', ρ := upd s.ρ d (.val r) } Q) : callT E m false f (some vs) s d ts Q := by
  subst hH
  unfold callT opt
  exact h.mono hq

def eU (n : Int) : List Value := [.int .u8 n]
abbrev SlU (H : Hp) (v : Value) (l : List Int) : Prop := Sl (En eU) 1 H v l
theorem Sl.byte {H : Hp} {v : Value} {l : List Int} (h : SlU H v l) {i : Nat} {a : Int} (hi : l[i]? = some a) : ∃ id p o, H[id]? = some o ∧ o[p]? = some (.int .u8 a) ∧
    ∀ (s : St) (x y : X), exv s.ρ x = some v → exv s.ρ y = some (.int .i64 i) → iadrK s 1 x y = some (.val (.pointer (some ⟨id, p, some o.length⟩)), s) := by
  obtain ⟨id, p, o, ho, hr, hp, hia⟩ := h.elem hi
  unfold En at hr
  exact ⟨id, p, o, ho, by simpa [eU] using getElem?_of_take hr (j := 0) (by omega), hia⟩

/-- A cursor over a draw's bytes. -/
def Cur (H : Hp) (c : Value) (id : Nat) : Prop := c = .pointer (some ⟨id, 0, some 3⟩) ∧ ∃ b i h bl, H[id]? = some [b, .int .i64 i, .int .i64 h] ∧ SlU H b bl ∧ 0 ≤ i ∧ ∀ j ∈ idsOf b, j < id
/-- The cursor has gone on; no more has been done. -/
def CS (H H' : Hp) (c : Value) (id : Nat) : Prop := Cur H' c id ∧ (∀ j, j ≠ id → H'[j]? = H[j]?) ∧ H'.length = H.length
/-- The cursor has gone on; new rows have come. -/
def CX (H H' : Hp) (c : Value) (id : Nat) : Prop := Cur H' c id ∧ (∀ j, j < H.length → j ≠ id → H'[j]? = H[j]?) ∧ H.length ≤ H'.length

theorem CS.trans {H H' H'' : Hp} {c : Value} {id : Nat} (h : CS H H' c id) (k : CS H' H'' c id) : CS H H'' c id := ⟨k.1, fun j hj => (k.2.1 j hj).trans (h.2.1 j hj), k.2.2.trans h.2.2⟩
theorem CS.cx {H H' : Hp} {c : Value} {id : Nat} (h : CS H H' c id) : CX H H' c id := ⟨h.1, fun j _ hj => h.2.1 j hj, by have := h.2.2; omega⟩
theorem CX.trans {H H' H'' : Hp} {c : Value} {id : Nat} (h : CX H H' c id) (k : CX H' H'' c id) : CX H H'' c id := ⟨k.1, fun j hl hj => (k.2.1 j (by have := h.2.2; omega) hj).trans (h.2.1 j hl hj), Nat.le_trans h.2.2 k.2.2⟩
theorem CX.refl {H : Hp} {c : Value} {id : Nat} (h : Cur H c id) : CX H H c id := ⟨h, fun _ _ _ => rfl, Nat.le_refl _⟩
theorem Sl.cs {α : Type} {R : α → List Value → Prop} {esz : Nat} {H H' : Hp} {v c : Value} {l : List α} {id : Nat} (h : Sl R esz H v l) (hc : CS H H' c id) (hid : id ∉ idsOf v) : Sl R esz H' v l :=
  h.frame (fun _ _ _ h => h) fun i off e ln cap hv => hc.2.1 i (fun e2 => hid (by subst hv; subst e2; simp [idsOf]))
theorem Sl.cx {α : Type} {R : α → List Value → Prop} {esz : Nat} {H H' : Hp} {v c : Value} {l : List α} {id : Nat} (h : Sl R esz H v l) (hc : CX H H' c id) (hid : id ∉ idsOf v) : Sl R esz H' v l :=
  h.frame (fun _ _ _ h => h) fun i off e ln cap hv => hc.2.1 i (h.ids i (by subst hv; simp [idsOf])) (fun e2 => hid (by subst hv; subst e2; simp [idsOf]))

theorem Cur.keep {H H' : Hp} {c : Value} {id : Nat} (h : Cur H c id) (hk : ∀ j, j ≤ id → H'[j]? = H[j]?) : Cur H' c id := by
  obtain ⟨rfl, b, i, g, bl, hid, hb, hi, hnb⟩ := h
  exact ⟨rfl, b, i, g, bl, by rw [hk id (Nat.le_refl _)]; exact hid, hb.frame (fun _ _ _ h => h) (fun x off e ln cap hv => hk x (Nat.le_of_lt (hnb x (by subst hv; simp [idsOf])))), hi, hnb⟩
theorem Cur.lt {H : Hp} {c : Value} {id : Nat} (h : Cur H c id) : id < H.length := by
  obtain ⟨rfl, b, i, g, bl, hid, _⟩ := h
  exact (List.getElem?_eq_some_iff.1 hid).1
theorem Cur.pre {H H' : Hp} {c : Value} {id : Nat} (h : Cur H c id) (hp : H <+: H') : Cur H' c id := h.keep fun j hj => pre_get hp (by have := h.lt; omega)
theorem CX.ofPre {H H' : Hp} {c : Value} {id : Nat} (h : Cur H c id) (hp : H <+: H') : CX H H' c id := ⟨h.pre hp, fun j hj _ => pre_get hp hj, hp.length_le⟩
/-- Rows of one's own have changed; the cursor hasn't. -/
theorem CX.own {H H1 H' : Hp} {c : Value} {id : Nat} (h : CX H H1 c id) (hid : id < H.length) (hk : ∀ j, j < H.length → H'[j]? = H1[j]?) (hl : H1.length ≤ H'.length) : CX H H' c id :=
  ⟨h.1.keep fun j hj => hk j (by omega), fun j hj hne => (hk j hj).trans (h.2.1 j hj hne), Nat.le_trans h.2.2 hl⟩
theorem CX.cut {H H' : Hp} {c : Value} {id : Nat} (h : CX H H' c id) (hid : id < H.length) : CS H (H'.take H.length) c id := by
  have hl : (H'.take H.length).length = H.length := by rw [List.length_take]; have := h.2.2; omega
  refine ⟨h.1.keep fun j hj => by rw [List.getElem?_take, if_pos (by omega)], fun j hj => ?_, hl⟩
  by_cases hjl : j < H.length
  · rw [List.getElem?_take, if_pos hjl]; exact h.2.1 j hjl hj
  · rw [List.getElem?_eq_none (by omega), List.getElem?_eq_none (by omega)]
theorem CS.cut {H H' : Hp} {c : Value} {id : Nat} (h : CS H H' c id) : CS H (H'.take H.length) c id := by
  rw [List.take_of_length_le (Nat.le_of_eq h.2.2)]; exact h
theorem CX.pre {H0 H H' : Hp} {c : Value} {id : Nat} (h : CX H H' c id) (hp : H0 <+: H) (hid : H0.length ≤ id) : H0 <+: H' := by
  refine List.prefix_iff_getElem?.2 fun j hj => ?_
  have := hp.length_le
  rw [h.2.1 j (by omega) (by omega), pre_get hp hj, List.getElem?_eq_getElem hj]

theorem and255 (a : Int) : 0 ≤ IntKind.i64.wrap ((BitVec.ofInt IntKind.i64.bits a &&& BitVec.ofInt IntKind.i64.bits 255).toNat : Int) ∧ IntKind.i64.wrap ((BitVec.ofInt IntKind.i64.bits a &&& BitVec.ofInt IntKind.i64.bits 255).toNat : Int) ≤ 255 := by
  have h : (BitVec.ofInt IntKind.i64.bits a &&& BitVec.ofInt IntKind.i64.bits 255).toNat ≤ 255 := by
    rw [BitVec.toNat_and]
    refine Nat.le_trans (Nat.and_le_right) ?_
    decide
  rw [wrap64 _ (by omega) (by omega)]
  omega

theorem f91 {m : Md} {H : Hp} {c : Value} {id : Nat} (hc : Cur H c id) (hw : m.wr id = true) : Fun EE m 91 [c] H fun r H' => ∃ x : Int, r = .int .i64 x ∧ 0 ≤ x ∧ x ≤ 255 ∧ CS H H' c id := by
  refine fun_t rfl rfl k91 (by simp [c91]) fun m' hm => ?_
  have hw : m'.wr id = true := (hm id).trans hw
  obtain ⟨rfl, b, i, h, bl, hid, hb, hi, hnb0⟩ := hc
  have hnb : id ∉ idsOf b := fun hm => by have := hnb0 _ hm; omega
  have hidl := (List.getElem?_eq_some_iff.1 hid).1
  have hset : ∀ q, (H.set id q)[id]? = some q := fun q => List.getElem?_set_self hidl
  have hroom := hb.room
  simp only [go_nil, go_blk, go_skip, go_ret, go_exit, go_seq, go_block, go_reg, go_r0, go_r, go_d0, go_d, go_e0, go_e, box2, Option.isSome_some, Nat.le_refl, go_cond, go_o, go_g, aft_some, cnd_bool, grd_bool, grd_tup, brT_true, brT_false, brT_not, thr_exit, thr_c, thr_nil, stp, stepK, movK, mv1, ex, exv, exvs, upd_some, upd_none, ini, St.val, binK, binV, ofV, pickK, unK, unV, beqK, beq_true, beq_false, if_true, if_false, List.getElem?_cons_zero, List.getElem?_cons_succ, ↓reduceIte, Nat.reduceEqDiff, reduceCtorEq, loadK, adr, deref, Ad.fv, Ad.live, fadrK, List.length_cons, List.length_nil, List.drop_zero, List.drop_succ_cons, List.take_succ_cons, List.take_zero, Nat.reduceAdd, Nat.reduceLeDiff, Nat.zero_add, Nat.add_zero, aeqK, agEq, scEq, boxVK, newVK, exc, vc_agg, vc_int, vc_bool, vc_str, vc_ptr, vc_sl, vc_fn, boxOf, adInf, List.reverse_cons, List.reverse_nil, List.nil_append, List.cons_append, extK, Bool.and_true, Bool.true_and, Bool.not_true, Bool.not_false, resT, resVs, resV, true_and, and_true, storeK, spl_nil, spl_z, spl_1, spl_2, spl_3, spl_4, spl_5, spl_6, spl_7, spl_8, scal_int, scal_bool, scal_str, scal_nil, implies_true, Bool.and_self, Post_ret, Post_normal, PostS_ret, PostS_normal, retT_true, retT_false, flat_bool, flat_int, flat_str, List.take_length, decide_true, decide_false, Option.some.injEq, Value.bool.injEq, Value.int.injEq, Bool.false_and, Bool.and_false, not_false_eq_true, not_true_eq_false, toIntK, List.length_set, Nat.reduceMul, Bool.not_eq_true, Bool.not_eq_false, List.all_cons, List.all_nil, exps, fillL, buildK, strK, nilcK, fnK, callVT, List.size_toArray, List.append_nil, List.singleton_append, boxOK, newOK, scal_nil, List.isEmpty_nil, List.isEmpty_cons, mkVK, mkOK, mkCells, zeros_0, zeros_1, zeros_2, zeros_3, zeros_4, List.map_cons, List.map_nil, c91, hid, hw]
  refine go_draw ?_
  simp only [go_nil, go_blk, go_skip, go_ret, go_exit, go_seq, go_block, go_reg, go_r0, go_r, go_d0, go_d, go_e0, go_e, box2, Option.isSome_some, Nat.le_refl, go_cond, go_o, go_g, aft_some, cnd_bool, grd_bool, grd_tup, brT_true, brT_false, brT_not, thr_exit, thr_c, thr_nil, stp, stepK, movK, mv1, ex, exv, exvs, upd_some, upd_none, ini, St.val, binK, binV, ofV, pickK, unK, unV, beqK, beq_true, beq_false, if_true, if_false, List.getElem?_cons_zero, List.getElem?_cons_succ, ↓reduceIte, Nat.reduceEqDiff, reduceCtorEq, loadK, adr, deref, Ad.fv, Ad.live, fadrK, List.length_cons, List.length_nil, List.drop_zero, List.drop_succ_cons, List.take_succ_cons, List.take_zero, Nat.reduceAdd, Nat.reduceLeDiff, Nat.zero_add, Nat.add_zero, aeqK, agEq, scEq, boxVK, newVK, exc, vc_agg, vc_int, vc_bool, vc_str, vc_ptr, vc_sl, vc_fn, boxOf, adInf, List.reverse_cons, List.reverse_nil, List.nil_append, List.cons_append, extK, Bool.and_true, Bool.true_and, Bool.not_true, Bool.not_false, resT, resVs, resV, true_and, and_true, storeK, spl_nil, spl_z, spl_1, spl_2, spl_3, spl_4, spl_5, spl_6, spl_7, spl_8, scal_int, scal_bool, scal_str, scal_nil, implies_true, Bool.and_self, Post_ret, Post_normal, PostS_ret, PostS_normal, retT_true, retT_false, flat_bool, flat_int, flat_str, List.take_length, decide_true, decide_false, Option.some.injEq, Value.bool.injEq, Value.int.injEq, Bool.false_and, Bool.and_false, not_false_eq_true, not_true_eq_false, toIntK, List.length_set, Nat.reduceMul, Bool.not_eq_true, Bool.not_eq_false, List.all_cons, List.all_nil, exps, fillL, buildK, strK, nilcK, fnK, callVT, List.size_toArray, List.append_nil, List.singleton_append, boxOK, newOK, scal_nil, List.isEmpty_nil, List.isEmpty_cons, mkVK, mkOK, mkCells, zeros_0, zeros_1, zeros_2, zeros_3, zeros_4, List.map_cons, List.map_nil, hset, Int.reduceLT, Bool.false_eq_true]
  refine ⟨by rfl, ?_⟩
  refine go_draw ?_
  simp only [go_nil, go_blk, go_skip, go_ret, go_exit, go_seq, go_block, go_reg, go_r0, go_r, go_d0, go_d, go_e0, go_e, box2, Option.isSome_some, Nat.le_refl, go_cond, go_o, go_g, aft_some, cnd_bool, grd_bool, grd_tup, brT_true, brT_false, brT_not, thr_exit, thr_c, thr_nil, stp, stepK, movK, mv1, ex, exv, exvs, upd_some, upd_none, ini, St.val, binK, binV, ofV, pickK, unK, unV, beqK, beq_true, beq_false, if_true, if_false, List.getElem?_cons_zero, List.getElem?_cons_succ, ↓reduceIte, Nat.reduceEqDiff, reduceCtorEq, loadK, adr, deref, Ad.fv, Ad.live, fadrK, List.length_cons, List.length_nil, List.drop_zero, List.drop_succ_cons, List.take_succ_cons, List.take_zero, Nat.reduceAdd, Nat.reduceLeDiff, Nat.zero_add, Nat.add_zero, aeqK, agEq, scEq, boxVK, newVK, exc, vc_agg, vc_int, vc_bool, vc_str, vc_ptr, vc_sl, vc_fn, boxOf, adInf, List.reverse_cons, List.reverse_nil, List.nil_append, List.cons_append, extK, Bool.and_true, Bool.true_and, Bool.not_true, Bool.not_false, resT, resVs, resV, true_and, and_true, storeK, spl_nil, spl_z, spl_1, spl_2, spl_3, spl_4, spl_5, spl_6, spl_7, spl_8, scal_int, scal_bool, scal_str, scal_nil, implies_true, Bool.and_self, Post_ret, Post_normal, PostS_ret, PostS_normal, retT_true, retT_false, flat_bool, flat_int, flat_str, List.take_length, decide_true, decide_false, Option.some.injEq, Value.bool.injEq, Value.int.injEq, Bool.false_and, Bool.and_false, not_false_eq_true, not_true_eq_false, toIntK, List.length_set, Nat.reduceMul, Bool.not_eq_true, Bool.not_eq_false, List.all_cons, List.all_nil, exps, fillL, buildK, strK, nilcK, fnK, callVT, List.size_toArray, List.append_nil, List.singleton_append, boxOK, newOK, scal_nil, List.isEmpty_nil, List.isEmpty_cons, mkVK, mkOK, mkCells, zeros_0, zeros_1, zeros_2, zeros_3, zeros_4, List.map_cons, List.map_nil, hset, Int.reduceLT]
  simp only [go_nil, go_blk, go_skip, go_ret, go_exit, go_seq, go_block, go_reg, go_r0, go_r, go_d0, go_d, go_e0, go_e, box2, Option.isSome_some, Nat.le_refl, go_cond, go_o, go_g, aft_some, cnd_bool, grd_bool, grd_tup, brT_true, brT_false, brT_not, thr_exit, thr_c, thr_nil, stp, stepK, movK, mv1, ex, exv, exvs, upd_some, upd_none, ini, St.val, binK, binV, ofV, pickK, unK, unV, beqK, beq_true, beq_false, if_true, if_false, List.getElem?_cons_zero, List.getElem?_cons_succ, ↓reduceIte, Nat.reduceEqDiff, reduceCtorEq, loadK, adr, deref, Ad.fv, Ad.live, fadrK, List.length_cons, List.length_nil, List.drop_zero, List.drop_succ_cons, List.take_succ_cons, List.take_zero, Nat.reduceAdd, Nat.reduceLeDiff, Nat.zero_add, Nat.add_zero, aeqK, agEq, scEq, boxVK, newVK, exc, vc_agg, vc_int, vc_bool, vc_str, vc_ptr, vc_sl, vc_fn, boxOf, adInf, List.reverse_cons, List.reverse_nil, List.nil_append, List.cons_append, extK, Bool.and_true, Bool.true_and, Bool.not_true, Bool.not_false, resT, resVs, resV, true_and, and_true, storeK, spl_nil, spl_z, spl_1, spl_2, spl_3, spl_4, spl_5, spl_6, spl_7, spl_8, scal_int, scal_bool, scal_str, scal_nil, implies_true, Bool.and_self, Post_ret, Post_normal, PostS_ret, PostS_normal, retT_true, retT_false, flat_bool, flat_int, flat_str, List.take_length, decide_true, decide_false, Option.some.injEq, Value.bool.injEq, Value.int.injEq, Bool.false_and, Bool.and_false, not_false_eq_true, not_true_eq_false, toIntK, List.length_set, Nat.reduceMul, Bool.not_eq_true, Bool.not_eq_false, List.all_cons, List.all_nil, exps, fillL, buildK, strK, nilcK, fnK, callVT, List.size_toArray, List.append_nil, List.singleton_append, boxOK, newOK, scal_nil, List.isEmpty_nil, List.isEmpty_cons, mkVK, mkOK, mkCells, zeros_0, zeros_1, zeros_2, zeros_3, zeros_4, List.map_cons, List.map_nil, hb.len, Int.reduceLT]
  refine ⟨by rfl, ?_⟩
  have done : ∀ (i' h' : Int) (q : List Value), 0 ≤ i' → q = [b, .int .i64 i', .int .i64 h'] → CS H (H.set id q) (.pointer (some ⟨id, 0, some 3⟩)) id := fun i' h' q hi' hq => by
    subst hq
    exact ⟨⟨rfl, b, i', h', bl, hset _, hb.other hnb, hi', hnb0⟩, fun j hj => List.getElem?_set_ne (fun e => hj e.symm), by simp⟩
  have hcut : ∀ q : List Value, (H.set id q).take H.length = H.set id q := fun q => List.take_of_length_le (by simp)
  refine brT.intro (fun c1 => ?_) (fun c1 => ?_)
  · obtain ⟨k, rfl⟩ : ∃ k : Nat, i = k := ⟨i.toNat, by omega⟩
    have hk : k < bl.length := by have := of_decide_eq_true c1; omega
    obtain ⟨idb, pb, ob, hob, hrb, hiab⟩ := (hb.other (r := [b, .int .i64 k, .int .i64 (IntKind.i64.wrap (IntKind.i64.wrap (h * 6364136223846793005) + 1442695040888963407))]) hnb).byte (List.getElem?_eq_getElem hk)
    simp only [go_nil, go_blk, go_skip, go_ret, go_exit, go_seq, go_block, go_reg, go_r0, go_r, go_d0, go_d, go_e0, go_e, box2, Option.isSome_some, Nat.le_refl, go_cond, go_o, go_g, aft_some, cnd_bool, grd_bool, grd_tup, brT_true, brT_false, brT_not, thr_exit, thr_c, thr_nil, stp, stepK, movK, mv1, ex, exv, exvs, upd_some, upd_none, ini, St.val, binK, binV, ofV, pickK, unK, unV, beqK, beq_true, beq_false, if_true, if_false, List.getElem?_cons_zero, List.getElem?_cons_succ, ↓reduceIte, Nat.reduceEqDiff, reduceCtorEq, loadK, adr, deref, Ad.fv, Ad.live, fadrK, List.length_cons, List.length_nil, List.drop_zero, List.drop_succ_cons, List.take_succ_cons, List.take_zero, Nat.reduceAdd, Nat.reduceLeDiff, Nat.zero_add, Nat.add_zero, aeqK, agEq, scEq, boxVK, newVK, exc, vc_agg, vc_int, vc_bool, vc_str, vc_ptr, vc_sl, vc_fn, boxOf, adInf, List.reverse_cons, List.reverse_nil, List.nil_append, List.cons_append, extK, Bool.and_true, Bool.true_and, Bool.not_true, Bool.not_false, resT, resVs, resV, true_and, and_true, storeK, spl_nil, spl_z, spl_1, spl_2, spl_3, spl_4, spl_5, spl_6, spl_7, spl_8, scal_int, scal_bool, scal_str, scal_nil, implies_true, Bool.and_self, Post_ret, Post_normal, PostS_ret, PostS_normal, retT_true, retT_false, flat_bool, flat_int, flat_str, List.take_length, decide_true, decide_false, Option.some.injEq, Value.bool.injEq, Value.int.injEq, Bool.false_and, Bool.and_false, not_false_eq_true, not_true_eq_false, toIntK, List.length_set, Nat.reduceMul, Bool.not_eq_true, Bool.not_eq_false, List.all_cons, List.all_nil, exps, fillL, buildK, strK, nilcK, fnK, callVT, List.size_toArray, List.append_nil, List.singleton_append, boxOK, newOK, scal_nil, List.isEmpty_nil, List.isEmpty_cons, mkVK, mkOK, mkCells, zeros_0, zeros_1, zeros_2, zeros_3, zeros_4, List.map_cons, List.map_nil]
    refine go_draw ?_
    simp only [go_nil, go_blk, go_skip, go_ret, go_exit, go_seq, go_block, go_reg, go_r0, go_r, go_d0, go_d, go_e0, go_e, box2, Option.isSome_some, Nat.le_refl, go_cond, go_o, go_g, aft_some, cnd_bool, grd_bool, grd_tup, brT_true, brT_false, brT_not, thr_exit, thr_c, thr_nil, stp, stepK, movK, mv1, ex, exv, exvs, upd_some, upd_none, ini, St.val, binK, binV, ofV, pickK, unK, unV, beqK, beq_true, beq_false, if_true, if_false, List.getElem?_cons_zero, List.getElem?_cons_succ, ↓reduceIte, Nat.reduceEqDiff, reduceCtorEq, loadK, adr, deref, Ad.fv, Ad.live, fadrK, List.length_cons, List.length_nil, List.drop_zero, List.drop_succ_cons, List.take_succ_cons, List.take_zero, Nat.reduceAdd, Nat.reduceLeDiff, Nat.zero_add, Nat.add_zero, aeqK, agEq, scEq, boxVK, newVK, exc, vc_agg, vc_int, vc_bool, vc_str, vc_ptr, vc_sl, vc_fn, boxOf, adInf, List.reverse_cons, List.reverse_nil, List.nil_append, List.cons_append, extK, Bool.and_true, Bool.true_and, Bool.not_true, Bool.not_false, resT, resVs, resV, true_and, and_true, storeK, spl_nil, spl_z, spl_1, spl_2, spl_3, spl_4, spl_5, spl_6, spl_7, spl_8, scal_int, scal_bool, scal_str, scal_nil, implies_true, Bool.and_self, Post_ret, Post_normal, PostS_ret, PostS_normal, retT_true, retT_false, flat_bool, flat_int, flat_str, List.take_length, decide_true, decide_false, Option.some.injEq, Value.bool.injEq, Value.int.injEq, Bool.false_and, Bool.and_false, not_false_eq_true, not_true_eq_false, toIntK, List.length_set, Nat.reduceMul, Bool.not_eq_true, Bool.not_eq_false, List.all_cons, List.all_nil, exps, fillL, buildK, strK, nilcK, fnK, callVT, List.size_toArray, List.append_nil, List.singleton_append, boxOK, newOK, scal_nil, List.isEmpty_nil, List.isEmpty_cons, mkVK, mkOK, mkCells, zeros_0, zeros_1, zeros_2, zeros_3, zeros_4, List.map_cons, List.map_nil, hset, hiab, hob, hrb, Int.reduceLT]
    refine ⟨by rfl, ?_⟩
    simp only [go_nil, go_blk, go_skip, go_ret, go_exit, go_seq, go_block, go_reg, go_r0, go_r, go_d0, go_d, go_e0, go_e, box2, Option.isSome_some, Nat.le_refl, go_cond, go_o, go_g, aft_some, cnd_bool, grd_bool, grd_tup, brT_true, brT_false, brT_not, thr_exit, thr_c, thr_nil, stp, stepK, movK, mv1, ex, exv, exvs, upd_some, upd_none, ini, St.val, binK, binV, ofV, pickK, unK, unV, beqK, beq_true, beq_false, if_true, if_false, List.getElem?_cons_zero, List.getElem?_cons_succ, ↓reduceIte, Nat.reduceEqDiff, reduceCtorEq, loadK, adr, deref, Ad.fv, Ad.live, fadrK, List.length_cons, List.length_nil, List.drop_zero, List.drop_succ_cons, List.take_succ_cons, List.take_zero, Nat.reduceAdd, Nat.reduceLeDiff, Nat.zero_add, Nat.add_zero, aeqK, agEq, scEq, boxVK, newVK, exc, vc_agg, vc_int, vc_bool, vc_str, vc_ptr, vc_sl, vc_fn, boxOf, adInf, List.reverse_cons, List.reverse_nil, List.nil_append, List.cons_append, extK, Bool.and_true, Bool.true_and, Bool.not_true, Bool.not_false, resT, resVs, resV, true_and, and_true, storeK, spl_nil, spl_z, spl_1, spl_2, spl_3, spl_4, spl_5, spl_6, spl_7, spl_8, scal_int, scal_bool, scal_str, scal_nil, implies_true, Bool.and_self, Post_ret, Post_normal, PostS_ret, PostS_normal, retT_true, retT_false, flat_bool, flat_int, flat_str, List.take_length, decide_true, decide_false, Option.some.injEq, Value.bool.injEq, Value.int.injEq, Bool.false_and, Bool.and_false, not_false_eq_true, not_true_eq_false, toIntK, List.length_set, Nat.reduceMul, Bool.not_eq_true, Bool.not_eq_false, List.all_cons, List.all_nil, exps, fillL, buildK, strK, nilcK, fnK, callVT, List.size_toArray, List.append_nil, List.singleton_append, boxOK, newOK, scal_nil, List.isEmpty_nil, List.isEmpty_cons, mkVK, mkOK, mkCells, zeros_0, zeros_1, zeros_2, zeros_3, zeros_4, List.map_cons, List.map_nil, hset, hw, List.set_set, wrap64 ((k : Int) + 1) (by omega) (by omega), hcut]
    exact ⟨_, rfl, (and255 _).1, (and255 _).2, done _ _ _ (by omega) rfl⟩
  · simp only [go_nil, go_blk, go_skip, go_ret, go_exit, go_seq, go_block, go_reg, go_r0, go_r, go_d0, go_d, go_e0, go_e, box2, Option.isSome_some, Nat.le_refl, go_cond, go_o, go_g, aft_some, cnd_bool, grd_bool, grd_tup, brT_true, brT_false, brT_not, thr_exit, thr_c, thr_nil, stp, stepK, movK, mv1, ex, exv, exvs, upd_some, upd_none, ini, St.val, binK, binV, ofV, pickK, unK, unV, beqK, beq_true, beq_false, if_true, if_false, List.getElem?_cons_zero, List.getElem?_cons_succ, ↓reduceIte, Nat.reduceEqDiff, reduceCtorEq, loadK, adr, deref, Ad.fv, Ad.live, fadrK, List.length_cons, List.length_nil, List.drop_zero, List.drop_succ_cons, List.take_succ_cons, List.take_zero, Nat.reduceAdd, Nat.reduceLeDiff, Nat.zero_add, Nat.add_zero, aeqK, agEq, scEq, boxVK, newVK, exc, vc_agg, vc_int, vc_bool, vc_str, vc_ptr, vc_sl, vc_fn, boxOf, adInf, List.reverse_cons, List.reverse_nil, List.nil_append, List.cons_append, extK, Bool.and_true, Bool.true_and, Bool.not_true, Bool.not_false, resT, resVs, resV, true_and, and_true, storeK, spl_nil, spl_z, spl_1, spl_2, spl_3, spl_4, spl_5, spl_6, spl_7, spl_8, scal_int, scal_bool, scal_str, scal_nil, implies_true, Bool.and_self, Post_ret, Post_normal, PostS_ret, PostS_normal, retT_true, retT_false, flat_bool, flat_int, flat_str, List.take_length, decide_true, decide_false, Option.some.injEq, Value.bool.injEq, Value.int.injEq, Bool.false_and, Bool.and_false, not_false_eq_true, not_true_eq_false, toIntK, List.length_set, Nat.reduceMul, Bool.not_eq_true, Bool.not_eq_false, List.all_cons, List.all_nil, exps, fillL, buildK, strK, nilcK, fnK, callVT, List.size_toArray, List.append_nil, List.singleton_append, boxOK, newOK, scal_nil, List.isEmpty_nil, List.isEmpty_cons, mkVK, mkOK, mkCells, zeros_0, zeros_1, zeros_2, zeros_3, zeros_4, List.map_cons, List.map_nil, hcut]
    exact ⟨_, rfl, (and255 _).1, (and255 _).2, done _ _ _ hi rfl⟩

/-- A number below another one. -/
def BelowR (H : Hp) (c : Value) (id : Nat) (n : Int) (r : Value) (H' : Hp) : Prop := ∃ x : Int, r = .int .i64 x ∧ 0 ≤ x ∧ (0 < n → x < n) ∧ (n ≤ 0 → x = 0) ∧ CS H H' c id
theorem f89 {m : Md} {H : Hp} {c : Value} {id : Nat} {n : Int} (hc : Cur H c id) (hw : m.wr id = true) : Fun EE m 89 [c, .int .i64 n] H fun r H' => BelowR H c id n r H' := by
  refine fun_t rfl rfl k89 (by simp [c89]) fun m' hm => ?_
  have hw : m'.wr id = true := (hm id).trans hw
  simp only [go_sem, ↓reduceIte, Nat.reduceEqDiff, reduceCtorEq, Nat.reduceAdd, Nat.reduceLeDiff, Nat.reduceMul, c89]
  refine brT.intro (fun q1 => ?_) (fun q1 => ?_) <;> simp only [go_sem, ↓reduceIte, Nat.reduceEqDiff, reduceCtorEq, Nat.reduceAdd, Nat.reduceLeDiff, Nat.reduceMul]
  · exact ⟨0, rfl, by omega, fun h => by have := of_decide_eq_true q1; omega, fun _ => rfl, hc, fun _ _ => rfl, rfl⟩
  have n0 : 0 < n := by have := of_decide_eq_false q1; omega
  have e3 : n ≠ 0 := by omega
  have fin : ∀ {x : Int} {H' : Hp}, 0 ≤ x → CS H H' c id → BelowR H c id n (.int .i64 (Int.tmod x n)) (H'.take H.length) := fun {x H'} hx h => ⟨_, rfl, Int.tmod_nonneg _ hx, fun _ => by rw [Int.tmod_eq_emod_of_nonneg hx]; exact Int.emod_lt_of_pos _ n0, fun h => by omega, h.cut⟩
  refine brT.intro (fun q2 => ?_) (fun q2 => ?_) <;> simp only [go_sem, ↓reduceIte, Nat.reduceEqDiff, reduceCtorEq, Nat.reduceAdd, Nat.reduceLeDiff, Nat.reduceMul]
  · refine callD (f91 hc hw) rfl fun r H1 ⟨x, e, hx0, hx1, hs⟩ => ?_
    subst e
    simp only [go_sem, ↓reduceIte, Nat.reduceEqDiff, reduceCtorEq, Nat.reduceAdd, Nat.reduceLeDiff, Nat.reduceMul, e3]
    exact fin hx0 hs
  refine callD (f91 hc hw) rfl fun r H1 ⟨x, e, hx0, hx1, hs1⟩ => ?_
  subst e
  simp only [go_sem, ↓reduceIte, Nat.reduceEqDiff, reduceCtorEq, Nat.reduceAdd, Nat.reduceLeDiff, Nat.reduceMul]
  refine callD (f91 hs1.1 hw) rfl fun r H2 ⟨y, e, hy0, hy1, hs2⟩ => ?_
  subst e
  simp only [go_sem, ↓reduceIte, Nat.reduceEqDiff, reduceCtorEq, Nat.reduceAdd, Nat.reduceLeDiff, Nat.reduceMul]
  refine callD (f91 hs2.1 hw) rfl fun r H3 ⟨z, e, hz0, hz1, hs3⟩ => ?_
  subst e
  simp only [go_sem, ↓reduceIte, Nat.reduceEqDiff, reduceCtorEq, Nat.reduceAdd, Nat.reduceLeDiff, Nat.reduceMul]
  refine callD (f91 hs3.1 hw) rfl fun r H4 ⟨u, e, hu0, hu1, hs4⟩ => ?_
  subst e
  have a1 := wrap64 (x * 16777216) (by omega) (by omega)
  have a2 := wrap64 (y * 65536) (by omega) (by omega)
  have a3 := wrap64 (x * 16777216 + y * 65536) (by omega) (by omega)
  have a4 := wrap64 (z * 256) (by omega) (by omega)
  have a5 := wrap64 (x * 16777216 + y * 65536 + z * 256) (by omega) (by omega)
  have a6 := wrap64 (x * 16777216 + y * 65536 + z * 256 + u) (by omega) (by omega)
  simp only [go_sem, ↓reduceIte, Nat.reduceEqDiff, reduceCtorEq, Nat.reduceAdd, Nat.reduceLeDiff, Nat.reduceMul, e3, a1, a2, a3, a4, a5, a6]
  exact fin (by omega) (((hs1.trans hs2).trans hs3).trans hs4)

theorem f66 {m : Md} {H : Hp} {c : Value} {id : Nat} {n : Int} (hc : Cur H c id) (hw : m.wr id = true) : Fun EE m 66 [c, .int .i64 n] H fun r H' => ∃ b : Bool, r = .bool b ∧ CS H H' c id := by
  refine fun_t rfl rfl k66 (by simp [c66]) fun m' hm => ?_
  have hw : m'.wr id = true := (hm id).trans hw
  simp only [go_sem, ↓reduceIte, Nat.reduceEqDiff, reduceCtorEq, Nat.reduceAdd, Nat.reduceLeDiff, Nat.reduceMul, c66]
  refine callD (f89 hc hw) rfl fun r H1 ⟨x, e, hx0, hx1, hx2, hs⟩ => ?_
  subst e
  simp only [go_sem, ↓reduceIte, Nat.reduceEqDiff, reduceCtorEq, Nat.reduceAdd, Nat.reduceLeDiff, Nat.reduceMul]
  exact ⟨_, rfl, hs.cut⟩

theorem f64 {m : Md} {H : Hp} {v : Value} {l : List Int} (hl : SlU H v l) : Fun EE m 64 [v] H fun r H' => Cur H' r H.length ∧ H <+: H' ∧ H'.length = H.length + 1 := by
  refine fun_f rfl rfl k64 (by simp [c64]) ?_
  have hroom := hl.room
  simp only [go_sem, ↓reduceIte, Nat.reduceEqDiff, reduceCtorEq, Nat.reduceAdd, Nat.reduceLeDiff, Nat.reduceMul, c64, hl.len]
  refine go_for 4000 (fun i s => s.H = H ∧ s.ρ 0 = .val v ∧ s.ρ 4 = .val (.int .i64 i) ∧ ∃ h : Int, s.ρ 3 = .val (.int .i64 h)) (fun s => s.H = H ∧ s.ρ 0 = .val v ∧ ∃ h : Int, s.ρ 3 = .val (.int .i64 h)) ?_ ?_ ?_
  · exact ⟨rfl, by simp [upd, ini], by simp [upd], _, by simp [upd]; rfl⟩
  · rintro i s hi ⟨hH, h0, h4, h, h3⟩
    simp only [go_sem, ↓reduceIte, Nat.reduceEqDiff, reduceCtorEq, Nat.reduceAdd, Nat.reduceLeDiff, Nat.reduceMul, h0, h3, h4, hl.len]
    refine brT.intro (fun c1 => ?_) (fun c1 => ?_) <;> simp only [go_sem, ↓reduceIte, Nat.reduceEqDiff, reduceCtorEq, Nat.reduceAdd, Nat.reduceLeDiff, Nat.reduceMul, c1, h0, h3, h4]
    · refine brT.intro (fun c2 => ?_) (fun c2 => ?_) <;> simp only [go_sem, ↓reduceIte, Nat.reduceEqDiff, reduceCtorEq, Nat.reduceAdd, Nat.reduceLeDiff, Nat.reduceMul, c1, c2, h0, h3, h4]
      · have hi2 : i < l.length := by have := of_decide_eq_true c1; omega
        have hi3 : i < 4000 := by have := of_decide_eq_true c2; omega
        obtain ⟨id, p, o, ho, hr, hia⟩ := hl.byte (List.getElem?_eq_getElem hi2)
        simp only [go_sem, ↓reduceIte, Nat.reduceEqDiff, reduceCtorEq, Nat.reduceAdd, Nat.reduceLeDiff, Nat.reduceMul, h0, h3, h4, hia, hH, ho, hr, wrap64 ((i : Int) + 1) (by omega) (by omega)]
        exact ⟨hi3, by simp, _, rfl⟩
      · exact ⟨hH, h, rfl⟩
    · exact ⟨hH, h, rfl⟩
  · rintro s ⟨hH, h0, h, h3⟩
    simp only [go_sem, ↓reduceIte, Nat.reduceEqDiff, reduceCtorEq, Nat.reduceAdd, Nat.reduceLeDiff, Nat.reduceMul, h0, h3, hH, hl.vc, exps, fillL, buildK]
    refine ⟨⟨rfl, v, 0, h, l, by simp, hl.pre (List.prefix_append _ _), by omega, hl.ids⟩, List.prefix_append _ _, by simp⟩

theorem f33 {H : Hp} {v : Value} {l : List Int} (hl : SlU H v l) : Scal EE 33 [v] H (.bool (decide ((l.length : Int) > 1048576))) := by
  refine scal_ok rfl rfl k33 (by simp [c33]) rfl fun m hw => ?_
  simp only [go_sem, ↓reduceIte, Nat.reduceEqDiff, reduceCtorEq, Nat.reduceAdd, Nat.reduceLeDiff, Nat.reduceMul, c33, hl.len]

theorem Sl.intD {H : Hp} {v : Value} {l : List Int} (h : Sl (En eI) 1 H v l) {i : Nat} {a : Int} (hi : l[i]? = some a) : ∃ id p o, H[id]? = some o ∧ o[p]? = some (.int .i64 a) ∧
    ∀ (s : St) (x y : X), exv s.ρ x = some v → exv s.ρ y = some (.int .i64 i) → iadrK s 1 x y = some (.val (.pointer (some ⟨id, p, some o.length⟩)), s) := by
  obtain ⟨id, p, o, ho, hr, hp, hia⟩ := h.elem hi
  unfold En at hr
  exact ⟨id, p, o, ho, by simpa [eI] using getElem?_of_take hr (j := 0) (by omega), hia⟩
theorem sl_ints {H : Hp} (l : List Int) (hl : l.length ≤ 9223372036854775807) : Sl (En eI) 1 (H ++ [l.map (Value.int .i64)]) (.slice (some ⟨H.length, 0, some 1⟩) l.length l.length) l :=
  .inr ⟨H.length, 0, l.length, l.map (Value.int .i64), rfl, by simp, by simp, by simp, hl, fun i a hi => by
    unfold En eI
    refine List.ext_getElem? fun j => ?_
    rw [take_drop_get]
    by_cases hj : j < 1
    · have : j = 0 := by omega
      subst this
      rw [if_pos hj, List.getElem?_map, show 0 + i * 1 + 0 = i by omega, hi]
      rfl
    · rw [if_neg hj, List.getElem?_eq_none (by simp; omega)]⟩
/-- One of some numbers. -/
theorem f71 {m : Md} {H : Hp} {c v : Value} {id : Nat} {l : List Int} (hc : Cur H c id) (hw : m.wr id = true) (hl : Sl (En eI) 1 H v l) (h0 : 0 < l.length) (hid : id ∉ idsOf v) : Fun EE m 71 [c, v] H fun r H' => ∃ x ∈ l, r = .int .i64 x ∧ CS H H' c id := by
  refine fun_t rfl rfl k71 (by simp [c71]) fun m' hm => ?_
  have hw : m'.wr id = true := (hm id).trans hw
  have hroom := hl.room
  simp only [go_sem, ↓reduceIte, Nat.reduceEqDiff, reduceCtorEq, Nat.reduceAdd, Nat.reduceLeDiff, Nat.reduceMul, c71, hl.len]
  refine callD (f89 hc hw) rfl fun r H1 ⟨x, e, hx0, hx1, hx2, hs⟩ => ?_
  subst e
  obtain ⟨k, rfl⟩ : ∃ k : Nat, x = k := ⟨x.toNat, by omega⟩
  have hk : k < l.length := by have := hx1 (by omega); omega
  obtain ⟨id2, p, o, ho, hr, hia⟩ := (hl.cs hs hid).intD (List.getElem?_eq_getElem hk)
  simp only [go_sem, ↓reduceIte, Nat.reduceEqDiff, reduceCtorEq, Nat.reduceAdd, Nat.reduceLeDiff, Nat.reduceMul, hia, ho, hr]
  exact ⟨_, List.getElem_mem hk, rfl, hs.cut⟩

theorem dslc_to {s : St} {x y : X} {b : ByteArray} {k : Nat} (hk : k ≤ b.size) (hx : exv s.ρ x = some (.string b)) (hy : exv s.ρ y = some (.int .i64 k)) : slcSK s x none (some y) = some (.val (.string (b.extract 0 k)), s) := by
  unfold slcSK
  rw [hx]
  simp only [bnd, hy]
  rw [if_pos ⟨by omega, by omega, by omega⟩]
  rfl
theorem dslc_from {s : St} {x y : X} {b : ByteArray} {k : Nat} (hk : k ≤ b.size) (hx : exv s.ρ x = some (.string b)) (hy : exv s.ρ y = some (.int .i64 k)) : slcSK s x (some y) none = some (.val (.string (b.extract k b.size)), s) := by
  unfold slcSK
  rw [hx]
  simp only [bnd, hy]
  rw [if_pos ⟨by omega, by omega, by omega⟩]
  rfl
theorem u8_nat (z : Int) : ∃ b : Nat, IntKind.u8.wrap z = (b : Int) ∧ b < 256 := by
  refine ⟨(IntKind.u8.wrap z).toNat, ?_, ?_⟩
  · simp [IntKind.wrap, IntKind.bits, IntKind.signed]
    omega
  · simp [IntKind.wrap, IntKind.bits, IntKind.signed]
    omega
theorem ne2D : ¬ ((2 : Int) = 0) := by decide
theorem ne4D : ¬ ((4 : Int) = 0) := by decide
theorem own_geD {N : Nat} {v : Value} (h : OwnS N v) : ∀ j ∈ idsOf v, N ≤ j := fun j hj => by
  rcases h with rfl | ⟨id, e, ln, cap, rfl, hid⟩
  · simp [idsOf] at hj
  · simp [idsOf] at hj; omega

/-- A text of so many bytes at most. -/
theorem f90 {m : Md} {H : Hp} {c : Value} {id : Nat} {most : Int} (hc : Cur H c id) (h0 : 0 ≤ most) (h1 : most ≤ 1000) (hw0 : Wr m H) (hw : m.wr id = true) : Fun EE m 90 [c, .int .i64 most] H fun r H' => ∃ s, r = .string s ∧ (s.size : Int) ≤ most ∧ CS H H' c id := by
  refine fun_t rfl rfl k90 (by simp [c90]) fun m' hm => ?_
  have hw : m'.wr id = true := (hm id).trans hw
  have hw0 : Wr m' H := fun j hj => (hm j).trans (hw0 j hj)
  have hidl := hc.lt
  have p0 : H <+: H ++ [[]] := List.prefix_append _ _
  simp only [go_sem, ↓reduceIte, Nat.reduceEqDiff, reduceCtorEq, Nat.reduceAdd, Nat.reduceLeDiff, Nat.reduceMul, c90, fillL]
  refine callD (f89 (hc.pre p0) hw) rfl fun r H1 ⟨st, e, hs0, hs1, _, cs1⟩ => ?_
  subst e
  simp only [go_sem, ↓reduceIte, Nat.reduceEqDiff, reduceCtorEq, Nat.reduceAdd, Nat.reduceLeDiff, Nat.reduceMul, wrap64 (most + 1) (by omega) (by omega)]
  refine callD (f89 cs1.1 hw) rfl fun r H2 ⟨k0, e, hk0, hk1, _, cs2⟩ => ?_
  subst e
  obtain ⟨k, rfl⟩ : ∃ k : Nat, k0 = k := ⟨k0.toNat, by omega⟩
  have hk := hk1 (by omega)
  have csA := cs1.trans cs2
  have own0 : SlN (H ++ [[]]) (.slice (some ⟨H.length, 0, some 1⟩) 0 (0 * 1)) [] := own_newN
  have ownH2 : SlN H2 (.slice (some ⟨H.length, 0, some 1⟩) 0 (0 * 1)) [] := own0.cs csA (by simp [idsOf]; omega)
  have cxA : CX H H2 c id := (CX.ofPre hc p0).trans csA.cx
  simp only [go_sem, ↓reduceIte, Nat.reduceEqDiff, reduceCtorEq, Nat.reduceAdd, Nat.reduceLeDiff, Nat.reduceMul]
  refine go_loop (fun n t => t.ρ 0 = .val c ∧ t.ρ 6 = .val (.int .i64 st) ∧ t.ρ 7 = .val (.int .i64 n) ∧ CX H t.H c id ∧ ∃ wv l, t.ρ 5 = .val wv ∧ SlN t.H wv l ∧ OwnS H.length wv ∧ (∀ b ∈ l, b < 256) ∧ (l.length : Int) + n ≤ most)
    (fun t => CX H t.H c id ∧ ∃ wv l, t.ρ 5 = .val wv ∧ SlN t.H wv l ∧ OwnS H.length wv ∧ (∀ b ∈ l, b < 256) ∧ (l.length : Int) ≤ most) k ?_ ?_ ?_
  · exact ⟨by simp [upd, ini], by simp [upd], by simp [upd], cxA, _, [], by simp [upd], ownH2, .inr ⟨_, _, _, _, rfl, Nat.le_refl _⟩, by simp, by simp; omega⟩
  · rintro n t ⟨k0, k6, k7, kc, wv, l, k5, ks, ko, kb, kl⟩
    simp only [go_sem, ↓reduceIte, Nat.reduceEqDiff, reduceCtorEq, Nat.reduceAdd, Nat.reduceLeDiff, Nat.reduceMul, k0, k5, k6, k7]
    refine brT.intro (fun q => ?_) (fun q => ?_) <;> simp only [go_sem, ↓reduceIte, Nat.reduceEqDiff, reduceCtorEq, Nat.reduceAdd, Nat.reduceLeDiff, Nat.reduceMul, k0, k5, k6, k7]
    rotate_left
    · exact ⟨kc, wv, l, rfl, ks, ko, kb, by have := of_decide_eq_false q; omega⟩
    have hn : 0 < n := by have := of_decide_eq_true q; omega
    refine callD (f91 kc.1 hw) rfl fun r H3 ⟨x, e, hx0, hx1, hs⟩ => ?_
    subst e
    have kc3 := kc.trans hs.cx
    have ks3 : SlN H3 wv l := ks.cs hs (fun h => by have := own_geD ko id h; omega)
    simp only [go_sem, ↓reduceIte, Nat.reduceEqDiff, reduceCtorEq, Nat.reduceAdd, Nat.reduceLeDiff, Nat.reduceMul, k0, k5, k6, k7]
    refine brT_join (fun t' => t'.H = H3 ∧ t'.ρ 0 = .val c ∧ t'.ρ 5 = .val wv ∧ t'.ρ 6 = .val (.int .i64 st) ∧ t'.ρ 7 = .val (.int .i64 n) ∧ ∃ y : Int, t'.ρ 8 = .val (.int .i64 y) ∧ 0 ≤ y ∧ y ≤ 255) (fun q1 => ?_) (fun q1 => ?_) fun t' ⟨jH, j0, j5, j6, j7, y, j8, hy0, hy1⟩ => ?_
    · simp only [go_sem, ↓reduceIte, Nat.reduceEqDiff, reduceCtorEq, Nat.reduceAdd, Nat.reduceLeDiff, Nat.reduceMul, k0, k5, k6, k7, ne2D]
      refine ⟨_, rfl, Int.tmod_nonneg _ hx0, ?_⟩
      have := Int.tmod_eq_emod_of_nonneg (b := 2) hx0
      omega
    · simp only [go_sem, ↓reduceIte, Nat.reduceEqDiff, reduceCtorEq, Nat.reduceAdd, Nat.reduceLeDiff, Nat.reduceMul, k0, k5, k6, k7]
      exact ⟨_, rfl, hx0, hx1⟩
    simp only [go_sem, ↓reduceIte, Nat.reduceEqDiff, reduceCtorEq, Nat.reduceAdd, Nat.reduceLeDiff, Nat.reduceMul, j0, j5, j6, j7, j8]
    refine brT_join (fun t' => t'.H = H3 ∧ t'.ρ 0 = .val c ∧ t'.ρ 5 = .val wv ∧ t'.ρ 6 = .val (.int .i64 st) ∧ t'.ρ 7 = .val (.int .i64 n) ∧ ∃ y : Int, t'.ρ 8 = .val (.int .i64 y) ∧ 0 ≤ y ∧ y ≤ 255) (fun q1 => ?_) (fun q1 => ?_) fun t'' ⟨iH, i0, i5, i6, i7, z, i8, hz0, hz1⟩ => ?_
    · have e4 := Int.tmod_eq_emod_of_nonneg (b := 4) hy0
      simp only [go_sem, ↓reduceIte, Nat.reduceEqDiff, reduceCtorEq, Nat.reduceAdd, Nat.reduceLeDiff, Nat.reduceMul, j0, j5, j6, j7, j8, jH, ne4D, wrap64 (97 + Int.tmod y 4) (by omega) (by omega)]
      exact ⟨_, rfl, by omega, by omega⟩
    · simp only [go_sem, ↓reduceIte, Nat.reduceEqDiff, reduceCtorEq, Nat.reduceAdd, Nat.reduceLeDiff, Nat.reduceMul, j0, j5, j6, j7, j8, jH]
      exact ⟨_, rfl, hy0, hy1⟩
    obtain ⟨z, rfl⟩ : ∃ z' : Nat, z = z' := ⟨z.toNat, by omega⟩
    obtain ⟨v2, H4, e1, e2, e3, e4, e5, e6, e7⟩ := ks3.oneN (m := m') z ko (by have := kc3.2.2; omega) hw0 (by omega)
    have kc4 : CX H H4 c id := kc3.own hidl (fun j hj => e4 j (by have := kc3.2.2; omega) (fun h => by have := own_geD ko j h; omega)) e5
    simp only [go_sem, ↓reduceIte, Nat.reduceEqDiff, reduceCtorEq, Nat.reduceAdd, Nat.reduceLeDiff, Nat.reduceMul, i0, i5, i6, i7, i8, iH, wrap8 (z : Int) (by omega) (by omega)]
    rw [e1]
    rotate_left
    · rfl
    · rfl
    · rfl
    simp only [go_sem, ↓reduceIte, Nat.reduceEqDiff, reduceCtorEq, Nat.reduceAdd, Nat.reduceLeDiff, Nat.reduceMul, i0, i5, i6, i7, i8, wrap64 ((n : Int) - 1) (by omega) (by omega)]
    refine ⟨n - 1, by omega, by congr 2; omega, kc4, v2, _, rfl, e2, e3, fun b hb => ?_, by simp; omega⟩
    rcases List.mem_append.1 hb with h | h
    · exact kb b h
    · rw [List.mem_singleton] at h; subst h; omega
  · rintro t ⟨kc, wv, l, k5, ks, ko, kb, kl⟩
    have hb := ks.b2s kb
    simp only [go_sem, ↓reduceIte, Nat.reduceEqDiff, reduceCtorEq, Nat.reduceAdd, Nat.reduceLeDiff, Nat.reduceMul, k5]
    rw [hb]
    rotate_left
    · rfl
    · rfl
    simp only [go_sem, ↓reduceIte, Nat.reduceEqDiff, reduceCtorEq, Nat.reduceAdd, Nat.reduceLeDiff, Nat.reduceMul]
    exact ⟨_, rfl, by rw [strOf_size]; exact kl, kc.cut hidl⟩

theorem sl_oneD {H : Hp} {a : Nat} : SlN (H ++ [[.int .u8 (a : Int)]]) (.slice (some ⟨H.length, 0, some 1⟩) 1 (1 * 1)) [a] := .inr ⟨H.length, 0, 1, [.int .u8 (a : Int)], rfl, by simp, by simp, by simp, by simp, fun i x hi => by
  cases i with
  | zero => simp at hi; subst hi; rfl
  | succ i => simp at hi⟩
theorem bget {b : ByteArray} {i : Nat} (h : i < b.size) : ∃ c, b[i]? = some c := ⟨_, getElem?_pos b i h⟩
theorem didx {s : St} {x y : X} {b : ByteArray} {i : Nat} {c : UInt8} (hc : b[i]? = some c) (hx : exv s.ρ x = some (.string b)) (hy : exv s.ρ y = some (.int .i64 i)) : idxK s x y = some (.val (.int .u8 c.toNat), s) := by
  unfold idxK
  rw [hx, hy]
  simp only [Int.toNat_natCast, hc]
  rw [if_pos (by omega)]
  rfl
/-- A text with a byte turned, dropped or added. -/
theorem f67 {m : Md} {H : Hp} {c : Value} {id : Nat} {s : ByteArray} (hc : Cur H c id) (hs : s.size ≤ 1000000000) (hw0 : Wr m H) (hw : m.wr id = true) : Fun EE m 67 [c, .string s] H fun r H' => ∃ t, r = .string t ∧ t.size ≤ s.size + 3 ∧ CS H H' c id := by
  refine fun_t rfl rfl k67 (by simp [c67]) fun m' hm => ?_
  have hw : m'.wr id = true := (hm id).trans hw
  have hw0 : Wr m' H := fun j hj => (hm j).trans (hw0 j hj)
  have hidl := hc.lt
  simp only [go_nil, go_blk, go_skip, go_ret, go_exit, go_seq, go_block, go_reg, go_r0, go_r, go_d0, go_d, go_e0, go_e, box2, Option.isSome_some, Nat.le_refl, go_cond, go_o, go_g, aft_some, cnd_bool, grd_bool, grd_tup, brT_true, brT_false, brT_not, thr_exit, thr_c, thr_nil, stp, stepK, movK, mv1, ex, exv, exvs, upd_some, upd_none, ini, St.val, binK, binV, ofV, pickK, unK, unV, beqK, beq_true, beq_false, if_true, if_false, List.getElem?_cons_zero, List.getElem?_cons_succ, ↓reduceIte, Nat.reduceEqDiff, reduceCtorEq, loadK, adr, deref, Ad.fv, Ad.live, fadrK, List.length_cons, List.length_nil, List.drop_zero, List.drop_succ_cons, List.take_succ_cons, List.take_zero, Nat.reduceAdd, Nat.reduceLeDiff, Nat.zero_add, Nat.add_zero, aeqK, agEq, scEq, boxVK, newVK, exc, vc_agg, vc_int, vc_bool, vc_str, vc_ptr, vc_sl, vc_fn, boxOf, adInf, List.reverse_cons, List.reverse_nil, List.nil_append, List.cons_append, extK, Bool.and_true, Bool.true_and, Bool.not_true, Bool.not_false, resT, resVs, resV, true_and, and_true, storeK, spl_nil, spl_z, spl_1, spl_2, spl_3, spl_4, spl_5, spl_6, spl_7, spl_8, scal_int, scal_bool, scal_str, scal_nil, implies_true, Bool.and_self, Post_ret, Post_normal, PostS_ret, PostS_normal, retT_true, retT_false, flat_bool, flat_int, flat_str, List.take_length, decide_true, decide_false, Option.some.injEq, Value.bool.injEq, Value.int.injEq, Bool.false_and, Bool.and_false, not_false_eq_true, not_true_eq_false, toIntK, List.length_set, Nat.reduceMul, Bool.not_eq_true, Bool.not_eq_false, List.all_cons, List.all_nil, exps, fillL, buildK, strK, nilcK, fnK, callVT, List.size_toArray, List.append_nil, List.singleton_append, boxOK, newOK, scal_nil, List.isEmpty_nil, List.isEmpty_cons, mkVK, mkOK, mkCells, zeros_0, zeros_1, zeros_2, zeros_3, zeros_4, List.map_cons, List.map_nil, c67, lenTK]
  refine brT.intro (fun q0 => ?_) (fun q0 => ?_) <;> simp only [go_nil, go_blk, go_skip, go_ret, go_exit, go_seq, go_block, go_reg, go_r0, go_r, go_d0, go_d, go_e0, go_e, box2, Option.isSome_some, Nat.le_refl, go_cond, go_o, go_g, aft_some, cnd_bool, grd_bool, grd_tup, brT_true, brT_false, brT_not, thr_exit, thr_c, thr_nil, stp, stepK, movK, mv1, ex, exv, exvs, upd_some, upd_none, ini, St.val, binK, binV, ofV, pickK, unK, unV, beqK, beq_true, beq_false, if_true, if_false, List.getElem?_cons_zero, List.getElem?_cons_succ, ↓reduceIte, Nat.reduceEqDiff, reduceCtorEq, loadK, adr, deref, Ad.fv, Ad.live, fadrK, List.length_cons, List.length_nil, List.drop_zero, List.drop_succ_cons, List.take_succ_cons, List.take_zero, Nat.reduceAdd, Nat.reduceLeDiff, Nat.zero_add, Nat.add_zero, aeqK, agEq, scEq, boxVK, newVK, exc, vc_agg, vc_int, vc_bool, vc_str, vc_ptr, vc_sl, vc_fn, boxOf, adInf, List.reverse_cons, List.reverse_nil, List.nil_append, List.cons_append, extK, Bool.and_true, Bool.true_and, Bool.not_true, Bool.not_false, resT, resVs, resV, true_and, and_true, storeK, spl_nil, spl_z, spl_1, spl_2, spl_3, spl_4, spl_5, spl_6, spl_7, spl_8, scal_int, scal_bool, scal_str, scal_nil, implies_true, Bool.and_self, Post_ret, Post_normal, PostS_ret, PostS_normal, retT_true, retT_false, flat_bool, flat_int, flat_str, List.take_length, decide_true, decide_false, Option.some.injEq, Value.bool.injEq, Value.int.injEq, Bool.false_and, Bool.and_false, not_false_eq_true, not_true_eq_false, toIntK, List.length_set, Nat.reduceMul, Bool.not_eq_true, Bool.not_eq_false, List.all_cons, List.all_nil, exps, fillL, buildK, strK, nilcK, fnK, callVT, List.size_toArray, List.append_nil, List.singleton_append, boxOK, newOK, scal_nil, List.isEmpty_nil, List.isEmpty_cons, mkVK, mkOK, mkCells, zeros_0, zeros_1, zeros_2, zeros_3, zeros_4, List.map_cons, List.map_nil, lenTK]
  · refine callD (f90 hc (by omega) (by omega) hw0 hw) rfl fun r H1 ⟨t, e, ht, cs1⟩ => ?_
    subst e
    simp only [go_nil, go_blk, go_skip, go_ret, go_exit, go_seq, go_block, go_reg, go_r0, go_r, go_d0, go_d, go_e0, go_e, box2, Option.isSome_some, Nat.le_refl, go_cond, go_o, go_g, aft_some, cnd_bool, grd_bool, grd_tup, brT_true, brT_false, brT_not, thr_exit, thr_c, thr_nil, stp, stepK, movK, mv1, ex, exv, exvs, upd_some, upd_none, ini, St.val, binK, binV, ofV, pickK, unK, unV, beqK, beq_true, beq_false, if_true, if_false, List.getElem?_cons_zero, List.getElem?_cons_succ, ↓reduceIte, Nat.reduceEqDiff, reduceCtorEq, loadK, adr, deref, Ad.fv, Ad.live, fadrK, List.length_cons, List.length_nil, List.drop_zero, List.drop_succ_cons, List.take_succ_cons, List.take_zero, Nat.reduceAdd, Nat.reduceLeDiff, Nat.zero_add, Nat.add_zero, aeqK, agEq, scEq, boxVK, newVK, exc, vc_agg, vc_int, vc_bool, vc_str, vc_ptr, vc_sl, vc_fn, boxOf, adInf, List.reverse_cons, List.reverse_nil, List.nil_append, List.cons_append, extK, Bool.and_true, Bool.true_and, Bool.not_true, Bool.not_false, resT, resVs, resV, true_and, and_true, storeK, spl_nil, spl_z, spl_1, spl_2, spl_3, spl_4, spl_5, spl_6, spl_7, spl_8, scal_int, scal_bool, scal_str, scal_nil, implies_true, Bool.and_self, Post_ret, Post_normal, PostS_ret, PostS_normal, retT_true, retT_false, flat_bool, flat_int, flat_str, List.take_length, decide_true, decide_false, Option.some.injEq, Value.bool.injEq, Value.int.injEq, Bool.false_and, Bool.and_false, not_false_eq_true, not_true_eq_false, toIntK, List.length_set, Nat.reduceMul, Bool.not_eq_true, Bool.not_eq_false, List.all_cons, List.all_nil, exps, fillL, buildK, strK, nilcK, fnK, callVT, List.size_toArray, List.append_nil, List.singleton_append, boxOK, newOK, scal_nil, List.isEmpty_nil, List.isEmpty_cons, mkVK, mkOK, mkCells, zeros_0, zeros_1, zeros_2, zeros_3, zeros_4, List.map_cons, List.map_nil]
    exact ⟨t, rfl, by omega, cs1.cut⟩
  have hsp : 0 < s.size := by have := of_decide_eq_false q0; omega
  refine callD (f89 hc hw) rfl fun r H1 ⟨k0, e, hk0, hk1, _, cs1⟩ => ?_
  subst e
  obtain ⟨k, rfl⟩ : ∃ k : Nat, k0 = k := ⟨k0.toNat, by omega⟩
  have hk : k < s.size := by have := hk1 (by omega); omega
  simp only [go_nil, go_blk, go_skip, go_ret, go_exit, go_seq, go_block, go_reg, go_r0, go_r, go_d0, go_d, go_e0, go_e, box2, Option.isSome_some, Nat.le_refl, go_cond, go_o, go_g, aft_some, cnd_bool, grd_bool, grd_tup, brT_true, brT_false, brT_not, thr_exit, thr_c, thr_nil, stp, stepK, movK, mv1, ex, exv, exvs, upd_some, upd_none, ini, St.val, binK, binV, ofV, pickK, unK, unV, beqK, beq_true, beq_false, if_true, if_false, List.getElem?_cons_zero, List.getElem?_cons_succ, ↓reduceIte, Nat.reduceEqDiff, reduceCtorEq, loadK, adr, deref, Ad.fv, Ad.live, fadrK, List.length_cons, List.length_nil, List.drop_zero, List.drop_succ_cons, List.take_succ_cons, List.take_zero, Nat.reduceAdd, Nat.reduceLeDiff, Nat.zero_add, Nat.add_zero, aeqK, agEq, scEq, boxVK, newVK, exc, vc_agg, vc_int, vc_bool, vc_str, vc_ptr, vc_sl, vc_fn, boxOf, adInf, List.reverse_cons, List.reverse_nil, List.nil_append, List.cons_append, extK, Bool.and_true, Bool.true_and, Bool.not_true, Bool.not_false, resT, resVs, resV, true_and, and_true, storeK, spl_nil, spl_z, spl_1, spl_2, spl_3, spl_4, spl_5, spl_6, spl_7, spl_8, scal_int, scal_bool, scal_str, scal_nil, implies_true, Bool.and_self, Post_ret, Post_normal, PostS_ret, PostS_normal, retT_true, retT_false, flat_bool, flat_int, flat_str, List.take_length, decide_true, decide_false, Option.some.injEq, Value.bool.injEq, Value.int.injEq, Bool.false_and, Bool.and_false, not_false_eq_true, not_true_eq_false, toIntK, List.length_set, Nat.reduceMul, Bool.not_eq_true, Bool.not_eq_false, List.all_cons, List.all_nil, exps, fillL, buildK, strK, nilcK, fnK, callVT, List.size_toArray, List.append_nil, List.singleton_append, boxOK, newOK, scal_nil, List.isEmpty_nil, List.isEmpty_cons, mkVK, mkOK, mkCells, zeros_0, zeros_1, zeros_2, zeros_3, zeros_4, List.map_cons, List.map_nil]
  refine callD (f89 cs1.1 hw) rfl fun r H2 ⟨w, e, hw1, hw2, _, cs2⟩ => ?_
  subst e
  have csA := cs1.trans cs2
  have nA : H2.length = H.length := csA.2.2
  have hw2 : Wr m' H2 := fun j hj => hw0 j (by omega)
  have hto := fun {t : St} {x y : X} => dslc_to (s := t) (x := x) (y := y) (b := s) (k := k) (by omega)
  have hfrom := fun {t : St} {x y : X} => dslc_from (s := t) (x := x) (y := y) (b := s) (k := k) (by omega)
  have hfrom1 : ∀ {t : St} {x y : X}, exv t.ρ x = some (.string s) → exv t.ρ y = some (.int .i64 ((k : Int) + 1)) → slcSK t x (some y) none = some (.val (.string (s.extract (k + 1) s.size)), t) := fun hx hy => dslc_from (k := k + 1) (by omega) hx (by rw [hy]; rfl)
  have z1 : (s.extract 0 k).size = k := by rw [ByteArray.size_extract]; omega
  have z2 : (s.extract k s.size).size = s.size - k := by rw [ByteArray.size_extract]; omega
  have z3 : (s.extract (k + 1) s.size).size = s.size - (k + 1) := by rw [ByteArray.size_extract]; omega
  have zo : ∀ b : Nat, (strOf [b]).size = 1 := fun b => strOf_size _
  have wk := wrap64 ((k : Int) + 1) (by omega) (by omega)
  have a1 : (s.extract 0 k).size + (s.extract (k + 1) s.size).size ≤ 9223372036854775807 := by omega
  have a2 : ∀ b : Nat, (s.extract 0 k).size + (strOf [b]).size ≤ 9223372036854775807 := fun b => by rw [zo]; omega
  have a3 : ∀ b : Nat, (s.extract 0 k ++ strOf [b]).size + (s.extract k s.size).size ≤ 9223372036854775807 := fun b => by rw [ByteArray.size_append, zo]; omega
  have a4 : ∀ b : Nat, (s.extract 0 k ++ strOf [b]).size + (s.extract (k + 1) s.size).size ≤ 9223372036854775807 := fun b => by rw [ByteArray.size_append, zo]; omega
  simp only [go_nil, go_blk, go_skip, go_ret, go_exit, go_seq, go_block, go_reg, go_r0, go_r, go_d0, go_d, go_e0, go_e, box2, Option.isSome_some, Nat.le_refl, go_cond, go_o, go_g, aft_some, cnd_bool, grd_bool, grd_tup, brT_true, brT_false, brT_not, thr_exit, thr_c, thr_nil, stp, stepK, movK, mv1, ex, exv, exvs, upd_some, upd_none, ini, St.val, binK, binV, ofV, pickK, unK, unV, beqK, beq_true, beq_false, if_true, if_false, List.getElem?_cons_zero, List.getElem?_cons_succ, ↓reduceIte, Nat.reduceEqDiff, reduceCtorEq, loadK, adr, deref, Ad.fv, Ad.live, fadrK, List.length_cons, List.length_nil, List.drop_zero, List.drop_succ_cons, List.take_succ_cons, List.take_zero, Nat.reduceAdd, Nat.reduceLeDiff, Nat.zero_add, Nat.add_zero, aeqK, agEq, scEq, boxVK, newVK, exc, vc_agg, vc_int, vc_bool, vc_str, vc_ptr, vc_sl, vc_fn, boxOf, adInf, List.reverse_cons, List.reverse_nil, List.nil_append, List.cons_append, extK, Bool.and_true, Bool.true_and, Bool.not_true, Bool.not_false, resT, resVs, resV, true_and, and_true, storeK, spl_nil, spl_z, spl_1, spl_2, spl_3, spl_4, spl_5, spl_6, spl_7, spl_8, scal_int, scal_bool, scal_str, scal_nil, implies_true, Bool.and_self, Post_ret, Post_normal, PostS_ret, PostS_normal, retT_true, retT_false, flat_bool, flat_int, flat_str, List.take_length, decide_true, decide_false, Option.some.injEq, Value.bool.injEq, Value.int.injEq, Bool.false_and, Bool.and_false, not_false_eq_true, not_true_eq_false, toIntK, List.length_set, Nat.reduceMul, Bool.not_eq_true, Bool.not_eq_false, List.all_cons, List.all_nil, exps, fillL, buildK, strK, nilcK, fnK, callVT, List.size_toArray, List.append_nil, List.singleton_append, boxOK, newOK, scal_nil, List.isEmpty_nil, List.isEmpty_cons, mkVK, mkOK, mkCells, zeros_0, zeros_1, zeros_2, zeros_3, zeros_4, List.map_cons, List.map_nil]
  refine brT.intro (fun q1 => ?_) (fun q1 => ?_) <;> simp only [go_nil, go_blk, go_skip, go_ret, go_exit, go_seq, go_block, go_reg, go_r0, go_r, go_d0, go_d, go_e0, go_e, box2, Option.isSome_some, Nat.le_refl, go_cond, go_o, go_g, aft_some, cnd_bool, grd_bool, grd_tup, brT_true, brT_false, brT_not, thr_exit, thr_c, thr_nil, stp, stepK, movK, mv1, ex, exv, exvs, upd_some, upd_none, ini, St.val, binK, binV, ofV, pickK, unK, unV, beqK, beq_true, beq_false, if_true, if_false, List.getElem?_cons_zero, List.getElem?_cons_succ, ↓reduceIte, Nat.reduceEqDiff, reduceCtorEq, loadK, adr, deref, Ad.fv, Ad.live, fadrK, List.length_cons, List.length_nil, List.drop_zero, List.drop_succ_cons, List.take_succ_cons, List.take_zero, Nat.reduceAdd, Nat.reduceLeDiff, Nat.zero_add, Nat.add_zero, aeqK, agEq, scEq, boxVK, newVK, exc, vc_agg, vc_int, vc_bool, vc_str, vc_ptr, vc_sl, vc_fn, boxOf, adInf, List.reverse_cons, List.reverse_nil, List.nil_append, List.cons_append, extK, Bool.and_true, Bool.true_and, Bool.not_true, Bool.not_false, resT, resVs, resV, true_and, and_true, storeK, spl_nil, spl_z, spl_1, spl_2, spl_3, spl_4, spl_5, spl_6, spl_7, spl_8, scal_int, scal_bool, scal_str, scal_nil, implies_true, Bool.and_self, Post_ret, Post_normal, PostS_ret, PostS_normal, retT_true, retT_false, flat_bool, flat_int, flat_str, List.take_length, decide_true, decide_false, Option.some.injEq, Value.bool.injEq, Value.int.injEq, Bool.false_and, Bool.and_false, not_false_eq_true, not_true_eq_false, toIntK, List.length_set, Nat.reduceMul, Bool.not_eq_true, Bool.not_eq_false, List.all_cons, List.all_nil, exps, fillL, buildK, strK, nilcK, fnK, callVT, List.size_toArray, List.append_nil, List.singleton_append, boxOK, newOK, scal_nil, List.isEmpty_nil, List.isEmpty_cons, mkVK, mkOK, mkCells, zeros_0, zeros_1, zeros_2, zeros_3, zeros_4, List.map_cons, List.map_nil]
  · refine go_draw ?_
    simp only [go_nil, go_blk, go_skip, go_ret, go_exit, go_seq, go_block, go_reg, go_r0, go_r, go_d0, go_d, go_e0, go_e, box2, Option.isSome_some, Nat.le_refl, go_cond, go_o, go_g, aft_some, cnd_bool, grd_bool, grd_tup, brT_true, brT_false, brT_not, thr_exit, thr_c, thr_nil, stp, stepK, movK, mv1, ex, exv, exvs, upd_some, upd_none, ini, St.val, binK, binV, ofV, pickK, unK, unV, beqK, beq_true, beq_false, if_true, if_false, List.getElem?_cons_zero, List.getElem?_cons_succ, ↓reduceIte, Nat.reduceEqDiff, reduceCtorEq, loadK, adr, deref, Ad.fv, Ad.live, fadrK, List.length_cons, List.length_nil, List.drop_zero, List.drop_succ_cons, List.take_succ_cons, List.take_zero, Nat.reduceAdd, Nat.reduceLeDiff, Nat.zero_add, Nat.add_zero, aeqK, agEq, scEq, boxVK, newVK, exc, vc_agg, vc_int, vc_bool, vc_str, vc_ptr, vc_sl, vc_fn, boxOf, adInf, List.reverse_cons, List.reverse_nil, List.nil_append, List.cons_append, extK, Bool.and_true, Bool.true_and, Bool.not_true, Bool.not_false, resT, resVs, resV, true_and, and_true, storeK, spl_nil, spl_z, spl_1, spl_2, spl_3, spl_4, spl_5, spl_6, spl_7, spl_8, scal_int, scal_bool, scal_str, scal_nil, implies_true, Bool.and_self, Post_ret, Post_normal, PostS_ret, PostS_normal, retT_true, retT_false, flat_bool, flat_int, flat_str, List.take_length, decide_true, decide_false, Option.some.injEq, Value.bool.injEq, Value.int.injEq, Bool.false_and, Bool.and_false, not_false_eq_true, not_true_eq_false, toIntK, List.length_set, Nat.reduceMul, Bool.not_eq_true, Bool.not_eq_false, List.all_cons, List.all_nil, exps, fillL, buildK, strK, nilcK, fnK, callVT, List.size_toArray, List.append_nil, List.singleton_append, boxOK, newOK, scal_nil, List.isEmpty_nil, List.isEmpty_cons, mkVK, mkOK, mkCells, zeros_0, zeros_1, zeros_2, zeros_3, zeros_4, List.map_cons, List.map_nil, hto, wk, hfrom1, a1]
    refine ⟨by rfl, ?_⟩
    exact ⟨_, rfl, by rw [ByteArray.size_append]; omega, csA.cut⟩
  refine brT.intro (fun q2 => ?_) (fun q2 => ?_) <;> simp only [go_nil, go_blk, go_skip, go_ret, go_exit, go_seq, go_block, go_reg, go_r0, go_r, go_d0, go_d, go_e0, go_e, box2, Option.isSome_some, Nat.le_refl, go_cond, go_o, go_g, aft_some, cnd_bool, grd_bool, grd_tup, brT_true, brT_false, brT_not, thr_exit, thr_c, thr_nil, stp, stepK, movK, mv1, ex, exv, exvs, upd_some, upd_none, ini, St.val, binK, binV, ofV, pickK, unK, unV, beqK, beq_true, beq_false, if_true, if_false, List.getElem?_cons_zero, List.getElem?_cons_succ, ↓reduceIte, Nat.reduceEqDiff, reduceCtorEq, loadK, adr, deref, Ad.fv, Ad.live, fadrK, List.length_cons, List.length_nil, List.drop_zero, List.drop_succ_cons, List.take_succ_cons, List.take_zero, Nat.reduceAdd, Nat.reduceLeDiff, Nat.zero_add, Nat.add_zero, aeqK, agEq, scEq, boxVK, newVK, exc, vc_agg, vc_int, vc_bool, vc_str, vc_ptr, vc_sl, vc_fn, boxOf, adInf, List.reverse_cons, List.reverse_nil, List.nil_append, List.cons_append, extK, Bool.and_true, Bool.true_and, Bool.not_true, Bool.not_false, resT, resVs, resV, true_and, and_true, storeK, spl_nil, spl_z, spl_1, spl_2, spl_3, spl_4, spl_5, spl_6, spl_7, spl_8, scal_int, scal_bool, scal_str, scal_nil, implies_true, Bool.and_self, Post_ret, Post_normal, PostS_ret, PostS_normal, retT_true, retT_false, flat_bool, flat_int, flat_str, List.take_length, decide_true, decide_false, Option.some.injEq, Value.bool.injEq, Value.int.injEq, Bool.false_and, Bool.and_false, not_false_eq_true, not_true_eq_false, toIntK, List.length_set, Nat.reduceMul, Bool.not_eq_true, Bool.not_eq_false, List.all_cons, List.all_nil, exps, fillL, buildK, strK, nilcK, fnK, callVT, List.size_toArray, List.append_nil, List.singleton_append, boxOK, newOK, scal_nil, List.isEmpty_nil, List.isEmpty_cons, mkVK, mkOK, mkCells, zeros_0, zeros_1, zeros_2, zeros_3, zeros_4, List.map_cons, List.map_nil]
  · refine go_draw ?_
    simp only [go_nil, go_blk, go_skip, go_ret, go_exit, go_seq, go_block, go_reg, go_r0, go_r, go_d0, go_d, go_e0, go_e, box2, Option.isSome_some, Nat.le_refl, go_cond, go_o, go_g, aft_some, cnd_bool, grd_bool, grd_tup, brT_true, brT_false, brT_not, thr_exit, thr_c, thr_nil, stp, stepK, movK, mv1, ex, exv, exvs, upd_some, upd_none, ini, St.val, binK, binV, ofV, pickK, unK, unV, beqK, beq_true, beq_false, if_true, if_false, List.getElem?_cons_zero, List.getElem?_cons_succ, ↓reduceIte, Nat.reduceEqDiff, reduceCtorEq, loadK, adr, deref, Ad.fv, Ad.live, fadrK, List.length_cons, List.length_nil, List.drop_zero, List.drop_succ_cons, List.take_succ_cons, List.take_zero, Nat.reduceAdd, Nat.reduceLeDiff, Nat.zero_add, Nat.add_zero, aeqK, agEq, scEq, boxVK, newVK, exc, vc_agg, vc_int, vc_bool, vc_str, vc_ptr, vc_sl, vc_fn, boxOf, adInf, List.reverse_cons, List.reverse_nil, List.nil_append, List.cons_append, extK, Bool.and_true, Bool.true_and, Bool.not_true, Bool.not_false, resT, resVs, resV, true_and, and_true, storeK, spl_nil, spl_z, spl_1, spl_2, spl_3, spl_4, spl_5, spl_6, spl_7, spl_8, scal_int, scal_bool, scal_str, scal_nil, implies_true, Bool.and_self, Post_ret, Post_normal, PostS_ret, PostS_normal, retT_true, retT_false, flat_bool, flat_int, flat_str, List.take_length, decide_true, decide_false, Option.some.injEq, Value.bool.injEq, Value.int.injEq, Bool.false_and, Bool.and_false, not_false_eq_true, not_true_eq_false, toIntK, List.length_set, Nat.reduceMul, Bool.not_eq_true, Bool.not_eq_false, List.all_cons, List.all_nil, exps, fillL, buildK, strK, nilcK, fnK, callVT, List.size_toArray, List.append_nil, List.singleton_append, boxOK, newOK, scal_nil, List.isEmpty_nil, List.isEmpty_cons, mkVK, mkOK, mkCells, zeros_0, zeros_1, zeros_2, zeros_3, zeros_4, List.map_cons, List.map_nil, hto]
    refine callT_arg (H := H2) rfl (fun m'' _ h2 _ => f91 csA.1 (h2 id (by obtain ⟨rfl, _⟩ := hc; simp [idsOf]) hw)) rfl hw2 fun r H3 ⟨x, e, hx0, hx1, cs3⟩ => ?_
    subst e
    obtain ⟨x, rfl⟩ : ∃ x' : Nat, x = x' := ⟨x.toNat, by omega⟩
    have hb := (sl_oneD (H := H3) (a := x)).b2s (fun n hn => by simp at hn; omega)
    simp only [go_nil, go_blk, go_skip, go_ret, go_exit, go_seq, go_block, go_reg, go_r0, go_r, go_d0, go_d, go_e0, go_e, box2, Option.isSome_some, Nat.le_refl, go_cond, go_o, go_g, aft_some, cnd_bool, grd_bool, grd_tup, brT_true, brT_false, brT_not, thr_exit, thr_c, thr_nil, stp, stepK, movK, mv1, ex, exv, exvs, upd_some, upd_none, ini, St.val, binK, binV, ofV, pickK, unK, unV, beqK, beq_true, beq_false, if_true, if_false, List.getElem?_cons_zero, List.getElem?_cons_succ, ↓reduceIte, Nat.reduceEqDiff, reduceCtorEq, loadK, adr, deref, Ad.fv, Ad.live, fadrK, List.length_cons, List.length_nil, List.drop_zero, List.drop_succ_cons, List.take_succ_cons, List.take_zero, Nat.reduceAdd, Nat.reduceLeDiff, Nat.zero_add, Nat.add_zero, aeqK, agEq, scEq, boxVK, newVK, exc, vc_agg, vc_int, vc_bool, vc_str, vc_ptr, vc_sl, vc_fn, boxOf, adInf, List.reverse_cons, List.reverse_nil, List.nil_append, List.cons_append, extK, Bool.and_true, Bool.true_and, Bool.not_true, Bool.not_false, resT, resVs, resV, true_and, and_true, storeK, spl_nil, spl_z, spl_1, spl_2, spl_3, spl_4, spl_5, spl_6, spl_7, spl_8, scal_int, scal_bool, scal_str, scal_nil, implies_true, Bool.and_self, Post_ret, Post_normal, PostS_ret, PostS_normal, retT_true, retT_false, flat_bool, flat_int, flat_str, List.take_length, decide_true, decide_false, Option.some.injEq, Value.bool.injEq, Value.int.injEq, Bool.false_and, Bool.and_false, not_false_eq_true, not_true_eq_false, toIntK, List.length_set, Nat.reduceMul, Bool.not_eq_true, Bool.not_eq_false, List.all_cons, List.all_nil, exps, fillL, buildK, strK, nilcK, fnK, callVT, List.size_toArray, List.append_nil, List.singleton_append, boxOK, newOK, scal_nil, List.isEmpty_nil, List.isEmpty_cons, mkVK, mkOK, mkCells, zeros_0, zeros_1, zeros_2, zeros_3, zeros_4, List.map_cons, List.map_nil, hto, wrap8 (x : Int) (by omega) (by omega)]
    rw [hb]
    rotate_left
    · rfl
    · rfl
    simp only [go_nil, go_blk, go_skip, go_ret, go_exit, go_seq, go_block, go_reg, go_r0, go_r, go_d0, go_d, go_e0, go_e, box2, Option.isSome_some, Nat.le_refl, go_cond, go_o, go_g, aft_some, cnd_bool, grd_bool, grd_tup, brT_true, brT_false, brT_not, thr_exit, thr_c, thr_nil, stp, stepK, movK, mv1, ex, exv, exvs, upd_some, upd_none, ini, St.val, binK, binV, ofV, pickK, unK, unV, beqK, beq_true, beq_false, if_true, if_false, List.getElem?_cons_zero, List.getElem?_cons_succ, ↓reduceIte, Nat.reduceEqDiff, reduceCtorEq, loadK, adr, deref, Ad.fv, Ad.live, fadrK, List.length_cons, List.length_nil, List.drop_zero, List.drop_succ_cons, List.take_succ_cons, List.take_zero, Nat.reduceAdd, Nat.reduceLeDiff, Nat.zero_add, Nat.add_zero, aeqK, agEq, scEq, boxVK, newVK, exc, vc_agg, vc_int, vc_bool, vc_str, vc_ptr, vc_sl, vc_fn, boxOf, adInf, List.reverse_cons, List.reverse_nil, List.nil_append, List.cons_append, extK, Bool.and_true, Bool.true_and, Bool.not_true, Bool.not_false, resT, resVs, resV, true_and, and_true, storeK, spl_nil, spl_z, spl_1, spl_2, spl_3, spl_4, spl_5, spl_6, spl_7, spl_8, scal_int, scal_bool, scal_str, scal_nil, implies_true, Bool.and_self, Post_ret, Post_normal, PostS_ret, PostS_normal, retT_true, retT_false, flat_bool, flat_int, flat_str, List.take_length, decide_true, decide_false, Option.some.injEq, Value.bool.injEq, Value.int.injEq, Bool.false_and, Bool.and_false, not_false_eq_true, not_true_eq_false, toIntK, List.length_set, Nat.reduceMul, Bool.not_eq_true, Bool.not_eq_false, List.all_cons, List.all_nil, exps, fillL, buildK, strK, nilcK, fnK, callVT, List.size_toArray, List.append_nil, List.singleton_append, boxOK, newOK, scal_nil, List.isEmpty_nil, List.isEmpty_cons, mkVK, mkOK, mkCells, zeros_0, zeros_1, zeros_2, zeros_3, zeros_4, List.map_cons, List.map_nil, hfrom, a2, a3]
    refine ⟨by rfl, ?_⟩
    have csB := csA.trans cs3
    have hcx : CX H (H3 ++ [[.int .u8 (x : Int)]]) c id := csB.cx.trans (CX.ofPre csB.1 (List.prefix_append _ _))
    exact ⟨_, rfl, by rw [ByteArray.size_append, ByteArray.size_append, zo]; omega, hcx.cut hidl⟩
  refine brT.intro (fun q3 => ?_) (fun q3 => ?_) <;> simp only [go_nil, go_blk, go_skip, go_ret, go_exit, go_seq, go_block, go_reg, go_r0, go_r, go_d0, go_d, go_e0, go_e, box2, Option.isSome_some, Nat.le_refl, go_cond, go_o, go_g, aft_some, cnd_bool, grd_bool, grd_tup, brT_true, brT_false, brT_not, thr_exit, thr_c, thr_nil, stp, stepK, movK, mv1, ex, exv, exvs, upd_some, upd_none, ini, St.val, binK, binV, ofV, pickK, unK, unV, beqK, beq_true, beq_false, if_true, if_false, List.getElem?_cons_zero, List.getElem?_cons_succ, ↓reduceIte, Nat.reduceEqDiff, reduceCtorEq, loadK, adr, deref, Ad.fv, Ad.live, fadrK, List.length_cons, List.length_nil, List.drop_zero, List.drop_succ_cons, List.take_succ_cons, List.take_zero, Nat.reduceAdd, Nat.reduceLeDiff, Nat.zero_add, Nat.add_zero, aeqK, agEq, scEq, boxVK, newVK, exc, vc_agg, vc_int, vc_bool, vc_str, vc_ptr, vc_sl, vc_fn, boxOf, adInf, List.reverse_cons, List.reverse_nil, List.nil_append, List.cons_append, extK, Bool.and_true, Bool.true_and, Bool.not_true, Bool.not_false, resT, resVs, resV, true_and, and_true, storeK, spl_nil, spl_z, spl_1, spl_2, spl_3, spl_4, spl_5, spl_6, spl_7, spl_8, scal_int, scal_bool, scal_str, scal_nil, implies_true, Bool.and_self, Post_ret, Post_normal, PostS_ret, PostS_normal, retT_true, retT_false, flat_bool, flat_int, flat_str, List.take_length, decide_true, decide_false, Option.some.injEq, Value.bool.injEq, Value.int.injEq, Bool.false_and, Bool.and_false, not_false_eq_true, not_true_eq_false, toIntK, List.length_set, Nat.reduceMul, Bool.not_eq_true, Bool.not_eq_false, List.all_cons, List.all_nil, exps, fillL, buildK, strK, nilcK, fnK, callVT, List.size_toArray, List.append_nil, List.singleton_append, boxOK, newOK, scal_nil, List.isEmpty_nil, List.isEmpty_cons, mkVK, mkOK, mkCells, zeros_0, zeros_1, zeros_2, zeros_3, zeros_4, List.map_cons, List.map_nil]
  · simp only [go_nil, go_blk, go_skip, go_ret, go_exit, go_seq, go_block, go_reg, go_r0, go_r, go_d0, go_d, go_e0, go_e, box2, Option.isSome_some, Nat.le_refl, go_cond, go_o, go_g, aft_some, cnd_bool, grd_bool, grd_tup, brT_true, brT_false, brT_not, thr_exit, thr_c, thr_nil, stp, stepK, movK, mv1, ex, exv, exvs, upd_some, upd_none, ini, St.val, binK, binV, ofV, pickK, unK, unV, beqK, beq_true, beq_false, if_true, if_false, List.getElem?_cons_zero, List.getElem?_cons_succ, ↓reduceIte, Nat.reduceEqDiff, reduceCtorEq, loadK, adr, deref, Ad.fv, Ad.live, fadrK, List.length_cons, List.length_nil, List.drop_zero, List.drop_succ_cons, List.take_succ_cons, List.take_zero, Nat.reduceAdd, Nat.reduceLeDiff, Nat.zero_add, Nat.add_zero, aeqK, agEq, scEq, boxVK, newVK, exc, vc_agg, vc_int, vc_bool, vc_str, vc_ptr, vc_sl, vc_fn, boxOf, adInf, List.reverse_cons, List.reverse_nil, List.nil_append, List.cons_append, extK, Bool.and_true, Bool.true_and, Bool.not_true, Bool.not_false, resT, resVs, resV, true_and, and_true, storeK, spl_nil, spl_z, spl_1, spl_2, spl_3, spl_4, spl_5, spl_6, spl_7, spl_8, scal_int, scal_bool, scal_str, scal_nil, implies_true, Bool.and_self, Post_ret, Post_normal, PostS_ret, PostS_normal, retT_true, retT_false, flat_bool, flat_int, flat_str, List.take_length, decide_true, decide_false, Option.some.injEq, Value.bool.injEq, Value.int.injEq, Bool.false_and, Bool.and_false, not_false_eq_true, not_true_eq_false, toIntK, List.length_set, Nat.reduceMul, Bool.not_eq_true, Bool.not_eq_false, List.all_cons, List.all_nil, exps, fillL, buildK, strK, nilcK, fnK, callVT, List.size_toArray, List.append_nil, List.singleton_append, boxOK, newOK, scal_nil, List.isEmpty_nil, List.isEmpty_cons, mkVK, mkOK, mkCells, zeros_0, zeros_1, zeros_2, zeros_3, zeros_4, List.map_cons, List.map_nil, hto]
    exact ⟨_, rfl, by omega, csA.cut⟩
  · obtain ⟨ch, hch⟩ := bget hk
    have hix := fun {t : St} {x y : X} => didx (s := t) (x := x) (y := y) hch
    refine go_draw ?_
    simp only [go_nil, go_blk, go_skip, go_ret, go_exit, go_seq, go_block, go_reg, go_r0, go_r, go_d0, go_d, go_e0, go_e, box2, Option.isSome_some, Nat.le_refl, go_cond, go_o, go_g, aft_some, cnd_bool, grd_bool, grd_tup, brT_true, brT_false, brT_not, thr_exit, thr_c, thr_nil, stp, stepK, movK, mv1, ex, exv, exvs, upd_some, upd_none, ini, St.val, binK, binV, ofV, pickK, unK, unV, beqK, beq_true, beq_false, if_true, if_false, List.getElem?_cons_zero, List.getElem?_cons_succ, ↓reduceIte, Nat.reduceEqDiff, reduceCtorEq, loadK, adr, deref, Ad.fv, Ad.live, fadrK, List.length_cons, List.length_nil, List.drop_zero, List.drop_succ_cons, List.take_succ_cons, List.take_zero, Nat.reduceAdd, Nat.reduceLeDiff, Nat.zero_add, Nat.add_zero, aeqK, agEq, scEq, boxVK, newVK, exc, vc_agg, vc_int, vc_bool, vc_str, vc_ptr, vc_sl, vc_fn, boxOf, adInf, List.reverse_cons, List.reverse_nil, List.nil_append, List.cons_append, extK, Bool.and_true, Bool.true_and, Bool.not_true, Bool.not_false, resT, resVs, resV, true_and, and_true, storeK, spl_nil, spl_z, spl_1, spl_2, spl_3, spl_4, spl_5, spl_6, spl_7, spl_8, scal_int, scal_bool, scal_str, scal_nil, implies_true, Bool.and_self, Post_ret, Post_normal, PostS_ret, PostS_normal, retT_true, retT_false, flat_bool, flat_int, flat_str, List.take_length, decide_true, decide_false, Option.some.injEq, Value.bool.injEq, Value.int.injEq, Bool.false_and, Bool.and_false, not_false_eq_true, not_true_eq_false, toIntK, List.length_set, Nat.reduceMul, Bool.not_eq_true, Bool.not_eq_false, List.all_cons, List.all_nil, exps, fillL, buildK, strK, nilcK, fnK, callVT, List.size_toArray, List.append_nil, List.singleton_append, boxOK, newOK, scal_nil, List.isEmpty_nil, List.isEmpty_cons, mkVK, mkOK, mkCells, zeros_0, zeros_1, zeros_2, zeros_3, zeros_4, List.map_cons, List.map_nil, hto, hix]
    refine callT_arg (H := H2) rfl (fun m'' _ h2 _ => f89 csA.1 (h2 id (by obtain ⟨rfl, _⟩ := hc; simp [idsOf]) hw)) rfl hw2 fun r H3 ⟨x, e, hx0, hx1, hx2, cs3⟩ => ?_
    subst e
    simp only [go_nil, go_blk, go_skip, go_ret, go_exit, go_seq, go_block, go_reg, go_r0, go_r, go_d0, go_d, go_e0, go_e, box2, Option.isSome_some, Nat.le_refl, go_cond, go_o, go_g, aft_some, cnd_bool, grd_bool, grd_tup, brT_true, brT_false, brT_not, thr_exit, thr_c, thr_nil, stp, stepK, movK, mv1, ex, exv, exvs, upd_some, upd_none, ini, St.val, binK, binV, ofV, pickK, unK, unV, beqK, beq_true, beq_false, if_true, if_false, List.getElem?_cons_zero, List.getElem?_cons_succ, ↓reduceIte, Nat.reduceEqDiff, reduceCtorEq, loadK, adr, deref, Ad.fv, Ad.live, fadrK, List.length_cons, List.length_nil, List.drop_zero, List.drop_succ_cons, List.take_succ_cons, List.take_zero, Nat.reduceAdd, Nat.reduceLeDiff, Nat.zero_add, Nat.add_zero, aeqK, agEq, scEq, boxVK, newVK, exc, vc_agg, vc_int, vc_bool, vc_str, vc_ptr, vc_sl, vc_fn, boxOf, adInf, List.reverse_cons, List.reverse_nil, List.nil_append, List.cons_append, extK, Bool.and_true, Bool.true_and, Bool.not_true, Bool.not_false, resT, resVs, resV, true_and, and_true, storeK, spl_nil, spl_z, spl_1, spl_2, spl_3, spl_4, spl_5, spl_6, spl_7, spl_8, scal_int, scal_bool, scal_str, scal_nil, implies_true, Bool.and_self, Post_ret, Post_normal, PostS_ret, PostS_normal, retT_true, retT_false, flat_bool, flat_int, flat_str, List.take_length, decide_true, decide_false, Option.some.injEq, Value.bool.injEq, Value.int.injEq, Bool.false_and, Bool.and_false, not_false_eq_true, not_true_eq_false, toIntK, List.length_set, Nat.reduceMul, Bool.not_eq_true, Bool.not_eq_false, List.all_cons, List.all_nil, exps, fillL, buildK, strK, nilcK, fnK, callVT, List.size_toArray, List.append_nil, List.singleton_append, boxOK, newOK, scal_nil, List.isEmpty_nil, List.isEmpty_cons, mkVK, mkOK, mkCells, zeros_0, zeros_1, zeros_2, zeros_3, zeros_4, List.map_cons, List.map_nil, hto, hix]
    generalize hg : IntKind.u8.wrap _ = g1
    obtain ⟨b, hb1, hb2⟩ : ∃ b : Nat, g1 = (b : Int) ∧ b < 256 := hg ▸ u8_nat _
    subst hb1
    have hb := (sl_oneD (H := H3) (a := b)).b2s (fun n hn => by simp at hn; omega)
    rw [hb]
    rotate_left
    · rfl
    · rfl
    simp only [go_nil, go_blk, go_skip, go_ret, go_exit, go_seq, go_block, go_reg, go_r0, go_r, go_d0, go_d, go_e0, go_e, box2, Option.isSome_some, Nat.le_refl, go_cond, go_o, go_g, aft_some, cnd_bool, grd_bool, grd_tup, brT_true, brT_false, brT_not, thr_exit, thr_c, thr_nil, stp, stepK, movK, mv1, ex, exv, exvs, upd_some, upd_none, ini, St.val, binK, binV, ofV, pickK, unK, unV, beqK, beq_true, beq_false, if_true, if_false, List.getElem?_cons_zero, List.getElem?_cons_succ, ↓reduceIte, Nat.reduceEqDiff, reduceCtorEq, loadK, adr, deref, Ad.fv, Ad.live, fadrK, List.length_cons, List.length_nil, List.drop_zero, List.drop_succ_cons, List.take_succ_cons, List.take_zero, Nat.reduceAdd, Nat.reduceLeDiff, Nat.zero_add, Nat.add_zero, aeqK, agEq, scEq, boxVK, newVK, exc, vc_agg, vc_int, vc_bool, vc_str, vc_ptr, vc_sl, vc_fn, boxOf, adInf, List.reverse_cons, List.reverse_nil, List.nil_append, List.cons_append, extK, Bool.and_true, Bool.true_and, Bool.not_true, Bool.not_false, resT, resVs, resV, true_and, and_true, storeK, spl_nil, spl_z, spl_1, spl_2, spl_3, spl_4, spl_5, spl_6, spl_7, spl_8, scal_int, scal_bool, scal_str, scal_nil, implies_true, Bool.and_self, Post_ret, Post_normal, PostS_ret, PostS_normal, retT_true, retT_false, flat_bool, flat_int, flat_str, List.take_length, decide_true, decide_false, Option.some.injEq, Value.bool.injEq, Value.int.injEq, Bool.false_and, Bool.and_false, not_false_eq_true, not_true_eq_false, toIntK, List.length_set, Nat.reduceMul, Bool.not_eq_true, Bool.not_eq_false, List.all_cons, List.all_nil, exps, fillL, buildK, strK, nilcK, fnK, callVT, List.size_toArray, List.append_nil, List.singleton_append, boxOK, newOK, scal_nil, List.isEmpty_nil, List.isEmpty_cons, mkVK, mkOK, mkCells, zeros_0, zeros_1, zeros_2, zeros_3, zeros_4, List.map_cons, List.map_nil, hfrom1, wk, a2, a4]
    refine ⟨by rfl, ?_⟩
    have csB := csA.trans cs3
    have hcx : CX H (H3 ++ [[.int .u8 (b : Int)]]) c id := csB.cx.trans (CX.ofPre csB.1 (List.prefix_append _ _))
    exact ⟨_, rfl, by rw [ByteArray.size_append, ByteArray.size_append, zo]; omega, hcx.cut hidl⟩
end Go.Proofs.Ytjepmnmakemfoaa.Ev

/- The types of the laws' parameters: bytes. -/
namespace Go.Proofs.Ytjepmnmakemfoaa.Ev
set_option linter.all false
open Go
set_option maxRecDepth 100000
theorem bU : Bld Try.prog 5 1 (fun _ (n : Int) vs => vs = [.int .u8 n]) (fun n => (Lit.int .u8 n).wf = true) := Bld.int Try.underlying5 (by kernel_rfl)
theorem aBytes : ArgB Try.prog 44 (fun M (l : List Int) v => SlU M v l) (fun l => ∀ x ∈ l, (Lit.int .u8 x).wf = true) :=
  have h := ArgB.slice (t := 44) (e := 5) Try.underlying44 (by kernel_rfl) (bU.conv (R' := fun _ (n : Int) vs => En eU n vs) (fun n => n) (fun _ _ _ h => h) (fun _ h => h) (fun _ h => h))
  ⟨h.mono, fun a b J M r => by
    obtain ⟨J', M', u, z, a1, a2, a3, a4, a5⟩ := h.arg a b J M r
    exact ⟨J', M', u, z, a1, a2, a3, a4, a5.2⟩⟩
end Go.Proofs.Ytjepmnmakemfoaa.Ev

/- A row more in a table: the reference's way. -/
namespace Go.Proofs.Ytjepmnmakemfoaa.Ev
set_option linter.all false
open Go
set_option maxRecDepth 4000

/-- The version that stands last for one. -/
def lastV (l : List Rw) (w : Int) : Int := l.foldl (fun n z => if z.1 = w then z.2.1 else n) 0
theorem lastV_succ {l : List Rw} {w : Int} {i : Nat} (h : i < l.length) : lastV (l.take (i + 1)) w = if l[i].1 = w then l[i].2.1 else lastV (l.take i) w := by
  unfold lastV
  rw [List.take_succ_eq_append_getElem h, List.foldl_append]
  rfl
theorem f68 {H : Hp} {v : Value} {l : List Rw} {w : Int} (hl : SlRw H v l) : Scal EE 68 [v, .int .i64 w] H (.int .i64 (lastV l w)) := by
  refine scal_ok rfl rfl k68 (by simp [c68]) rfl fun m hw => ?_
  have hroom := hl.room
  simp only [go_sem, ↓reduceIte, Nat.reduceEqDiff, reduceCtorEq, Nat.reduceAdd, Nat.reduceLeDiff, Nat.reduceMul, c68]
  refine go_for l.length (fun i s => s.H = H ∧ s.ρ 0 = .val v ∧ s.ρ 1 = .val (.int .i64 w) ∧ s.ρ 5 = .val (.int .i64 (lastV (l.take i) w)) ∧ s.ρ 6 = .val (.int .i64 i)) (fun s => s.H = H ∧ s.ρ 5 = .val (.int .i64 (lastV l w))) (by simp [upd, ini, lastV]) ?_ ?_
  · rintro i s hi ⟨hH, k0, k1, k5, k6⟩
    simp only [go_sem, ↓reduceIte, Nat.reduceEqDiff, reduceCtorEq, Nat.reduceAdd, Nat.reduceLeDiff, Nat.reduceMul, k0, k1, k5, k6, hl.len]
    refine brT.intro (fun q1 => ?_) (fun q1 => ?_) <;> simp only [go_sem, ↓reduceIte, Nat.reduceEqDiff, reduceCtorEq, Nat.reduceAdd, Nat.reduceLeDiff, Nat.reduceMul, k0, k1, k5, k6]
    · have hil : i < l.length := by have := of_decide_eq_true q1; omega
      obtain ⟨id2, p, o, ho, hr, hp, hia⟩ := hl.elem (List.getElem?_eq_getElem hil)
      unfold En at hr
      have g0 : o[p]? = some (.int .i64 l[i].1) := by simpa [eRw] using getElem?_of_take hr (j := 0) (by omega)
      have g1 : o[p + 1]? = some (.int .i64 l[i].2.1) := by simpa [eRw] using getElem?_of_take hr (j := 1) (by omega)
      simp only [go_sem, ↓reduceIte, Nat.reduceEqDiff, reduceCtorEq, Nat.reduceAdd, Nat.reduceLeDiff, Nat.reduceMul, k0, k1, k5, k6, hia, hH, ho, g0]
      refine brT.intro (fun q2 => ?_) (fun q2 => ?_) <;> simp only [go_sem, ↓reduceIte, Nat.reduceEqDiff, reduceCtorEq, Nat.reduceAdd, Nat.reduceLeDiff, Nat.reduceMul, k0, k1, k5, k6, hia, hH, ho, g1, wrap64 ((i : Int) + 1) (by omega) (by omega)]
      · exact ⟨hil, by rw [lastV_succ hil, if_pos (of_decide_eq_true q2)], by simp⟩
      · exact ⟨hil, by rw [lastV_succ hil, if_neg (of_decide_eq_false q2)], by simp⟩
    · have : i = l.length := by have := of_decide_eq_false q1; omega
      subst this
      exact ⟨hH, by rw [List.take_length]⟩
  · rintro s ⟨hH, k5⟩
    simp only [go_sem, ↓reduceIte, Nat.reduceEqDiff, reduceCtorEq, Nat.reduceAdd, Nat.reduceLeDiff, Nat.reduceMul, hH, k5]

/-- A row put in ahead of the first of a later one. -/
def insS (w n k : Int) (st : Bool × List Rw) (z : Rw) : Bool × List Rw := if st.1 = false ∧ z.1 > w then (true, st.2 ++ [(w, n, k)] ++ [z]) else (st.1, st.2 ++ [z])
def insF (w n k : Int) (l : List Rw) : Bool × List Rw := l.foldl (insS w n k) (false, [])
def insR (w n k : Int) (l : List Rw) : List Rw := if (insF w n k l).1 = true then (insF w n k l).2 else (insF w n k l).2 ++ [(w, n, k)]
theorem insF_succ {w n k : Int} {l : List Rw} {i : Nat} (h : i < l.length) : insF w n k (l.take (i + 1)) = insS w n k (insF w n k (l.take i)) l[i] := by
  unfold insF
  rw [List.take_succ_eq_append_getElem h, List.foldl_append]
  rfl
theorem insS_len (w n k : Int) (st : Bool × List Rw) (z : Rw) : (insS w n k st z).2.length + cond (insS w n k st z).1 0 1 = st.2.length + 1 + cond st.1 0 1 := by
  unfold insS
  split
  · rename_i h
    rw [h.1]
    simp
  · simp only [List.length_append, List.length_cons, List.length_nil]
theorem insF_len (w n k : Int) : ∀ (l : List Rw) (st : Bool × List Rw), (l.foldl (insS w n k) st).2.length + cond (l.foldl (insS w n k) st).1 0 1 = st.2.length + l.length + cond st.1 0 1
  | [], st => by simp
  | z :: l, st => by
    have h1 := insF_len w n k l (insS w n k st z)
    have h2 := insS_len w n k st z
    rw [List.foldl_cons, List.length_cons]
    omega
theorem insF_len2 (w n k : Int) (l : List Rw) : (insF w n k l).2.length ≤ l.length + 1 := by
  have h : (insF w n k l).2.length + cond (insF w n k l).1 0 1 = 0 + l.length + 1 := insF_len w n k l (false, [])
  omega
theorem insR_len (w n k : Int) (l : List Rw) : (insR w n k l).length = l.length + 1 := by
  have h : (insF w n k l).2.length + cond (insF w n k l).1 0 1 = 0 + l.length + 1 := insF_len w n k l (false, [])
  unfold insR
  cases hd : (insF w n k l).1 with
  | true =>
    rw [hd] at h
    rw [if_pos rfl]
    simp only [cond_true] at h
    omega
  | false =>
    rw [hd] at h
    rw [if_neg (by decide)]
    simp only [cond_false] at h
    simp only [List.length_append, List.length_cons, List.length_nil]
    omega
def addOk (l : List Rw) (w k : Int) : Bool := inB w 0 99 && (inB k 1 1000000 && (decide (l.length < 20) && (decide (lastV l w + 1 ≤ 1000) && !keyIn l k)))
noncomputable def addT (l : List Rw) (w k : Int) : List Rw × Bool := if tbOk l = true then (if addOk l w k = true then (insR w (lastV l w + 1) k l, true) else (l, false)) else ([], false)
theorem addT_len (l : List Rw) (w k : Int) : (addT l w k).1.length ≤ 20 := by
  unfold addT
  split
  · rename_i h
    have h1 := (tbOk_t.1 h).1
    split
    · rename_i h2
      rw [insR_len]
      simp only [addOk, Bool.and_eq_true, decide_eq_true_eq] at h2
      omega
    · exact h1
  · simp
theorem lastV_in {l : List Rw} (h : TbOk l) (w : Int) : 0 ≤ lastV l w ∧ lastV l w ≤ 1000 := by
  have : ∀ (l : List Rw) (n : Int), (∀ z ∈ l, rowOkB z = true) → 0 ≤ n ∧ n ≤ 1000 → 0 ≤ l.foldl (fun n z => if z.1 = w then z.2.1 else n) n ∧ l.foldl (fun n z => if z.1 = w then z.2.1 else n) n ≤ 1000 := by
    intro l
    induction l with
    | nil => intro n _ hn; exact hn
    | cons z l ih =>
      intro n hz hn
      rw [List.foldl_cons]
      refine ih _ (fun y hy => hz y (List.mem_cons_of_mem _ hy)) ?_
      have := hz z (by simp)
      simp only [rowOkB, Bool.and_eq_true, inB_t] at this
      split <;> omega
  exact this l 0 (fun z hz => tb_row h hz) (by omega)

theorem Sl.oneR2 {m : Md} {N : Nat} {H : Hp} {wp v : Value} {P l : List Rw} (z : Rw) (kp : SlRw H wp P) (h : SlRw H v l) (hd : ∀ j ∈ idsOf wp, j ∉ idsOf v) (ho : OwnS N v) (hN : N ≤ H.length) (hw : ∀ id, N ≤ id → m.wr id = true) (hb : l.length < 1048576) :
    ∃ v' H', (∀ (s : St) (x y : X), s.H = H → exv s.ρ x = some v → ex s.ρ y = .vs 1 (eRw z) → appK m s 3 24 x y = some (.val v', { s with H := H' })) ∧ SlRw H' wp P ∧ SlRw H' v' (l ++ [z]) ∧ OwnS N v' ∧
      (∀ j ∈ idsOf wp, j ∉ idsOf v') ∧ ∀ H0 : Hp, H0.length ≤ N → H0 <+: H → H0 <+: H' := by
  obtain ⟨v', H', e1, e2, e3, e4, e5, e6, e7⟩ := h.oneRw (m := m) z ho hN hw hb
  refine ⟨v', H', e1, kp.frame (fun _ _ _ h => h) (fun id off e len cap hv => ?_), e2, e3, fun j hj h => ?_, e7⟩
  · have hm : id ∈ idsOf wp := by subst hv; simp [idsOf]
    exact e4 id (kp.ids id hm) (hd id hm)
  · rcases e6 j h with h2 | h2
    · exact hd j hj h2
    · have := kp.ids j hj
      omega
def AddR (H : Hp) (l : List Rw) (w k : Int) (r : Value) (H' : Hp) : Prop := ∃ u, r = .tuple #[u, .bool (addT l w k).2] ∧ FreshS eRw 3 H u H' (addT l w k).1
theorem f36 {m : Md} {H : Hp} {v : Value} {l : List Rw} {w k : Int} (hl : SlRw H v l) (hw : Wr m H) : Fun EE m 36 [v, .int .i64 w, .int .i64 k] H fun r H' => AddR H l w k r H' := by
  refine fun_f rfl rfl k36 (by simp [c36]) ?_
  have hroom := hl.room
  have a16 := fun {m draw t d ts Q} => callT_at (m := m) (draw := draw) (s := t) (d := d) (ts := ts) (Q := Q) (f16 hl)
  simp only [go_sem, ↓reduceIte, Nat.reduceEqDiff, reduceCtorEq, Nat.reduceAdd, Nat.reduceLeDiff, Nat.reduceMul, c36, a16, hw]
  unfold AddR addT
  cases hB : tbOk l with
  | false =>
    simp only [go_sem, ↓reduceIte, Nat.reduceEqDiff, reduceCtorEq, Nat.reduceAdd, Nat.reduceLeDiff, Nat.reduceMul, fillL]
    exact ⟨_, rfl, FreshS.new (List.prefix_refl _)⟩
  | true =>
  rw [if_pos rfl]
  have hok := tbOk_t.1 hB
  have h20 := hok.1
  have hv := lastV_in hok w
  have p0 : H <+: H ++ [[]] := List.prefix_append _ _
  have s0 : SlRw (H ++ [[]]) (.slice (some ⟨H.length, 0, some 3⟩) 0 (0 * 3)) [] := own_newR
  have o0 : OwnS H.length (.slice (some ⟨H.length, 0, some 3⟩) 0 (0 * 3)) := .inr ⟨_, _, _, _, rfl, Nat.le_refl _⟩
  generalize hwv : Value.slice (some ⟨H.length, 0, some 3⟩) 0 (0 * 3) = wv0 at s0 o0
  have hsc : ∀ z : Rw, (eRw z).all scal = true := fun z => rfl
  obtain ⟨v2, H2, d1, d2, d3, d4, d5, d6, d7⟩ := s0.join (m := m) (N := H.length) (bytes := 24) (hl.pre p0) hsc (by omega) o0 p0.length_le hw (by unfold Ev.room; simp; omega) (by unfold Ev.room; simp; omega)
  have p2 : H <+: H2 := d7 H (Nat.le_refl _) p0
  have d2 : SlRw H2 v2 l := by simpa using d2
  have l2 := hl.pre p2
  have w2 := hw.pre p2
  have a68 := fun {m draw t d ts Q} => callT_at (m := m) (draw := draw) (s := t) (d := d) (ts := ts) (Q := Q) (f68 (w := w) l2)
  have a52 := fun {a b c : Int} {m draw t d ts Q} => callT_at (m := m) (draw := draw) (s := t) (d := d) (ts := ts) (Q := Q) (f52i (H := H2) (a := a) (b := b) (c := c))
  have n1 : IntKind.i64.wrap (lastV l w + 1) = lastV l w + 1 := wrap64 _ (by omega) (by omega)
  simp only [go_sem, ↓reduceIte, Nat.reduceEqDiff, reduceCtorEq, Nat.reduceAdd, Nat.reduceLeDiff, Nat.reduceMul, fillL, hwv]
  rw [d1]
  rotate_left
  · rfl
  · rfl
  · rfl
  have no : addOk l w k = false → ∃ u, Value.tuple #[v2, .bool false] = .tuple #[u, .bool (if addOk l w k = true then (insR w (lastV l w + 1) k l, true) else (l, false)).2] ∧ FreshS eRw 3 H u H2 (if addOk l w k = true then (insR w (lastV l w + 1) k l, true) else (l, false)).1 := fun h => by
    rw [if_neg (by rw [h]; decide)]
    exact ⟨_, rfl, p2, d2, d3⟩
  simp only [go_sem, ↓reduceIte, Nat.reduceEqDiff, reduceCtorEq, Nat.reduceAdd, Nat.reduceLeDiff, Nat.reduceMul, a68, w2, n1, a52]
  cases h1 : inB w 0 99 <;> simp only [go_sem, ↓reduceIte, Nat.reduceEqDiff, reduceCtorEq, Nat.reduceAdd, Nat.reduceLeDiff, Nat.reduceMul, h1, a52, w2]
  · exact no (by simp [addOk, h1])
  cases h2 : inB k 1 1000000 <;> simp only [go_sem, ↓reduceIte, Nat.reduceEqDiff, reduceCtorEq, Nat.reduceAdd, Nat.reduceLeDiff, Nat.reduceMul, h2, a52, w2, l2.len]
  · exact no (by simp [addOk, h2])
  cases h3 : decide ((l.length : Int) ≥ 20) <;> simp only [go_sem, ↓reduceIte, Nat.reduceEqDiff, reduceCtorEq, Nat.reduceAdd, Nat.reduceLeDiff, Nat.reduceMul, h3]
  rotate_left
  · exact no (by have := of_decide_eq_true h3; simp [addOk]; intros; omega)
  have h3' : l.length < 20 := by have := of_decide_eq_false h3; omega
  cases h4 : decide (lastV l w + 1 > 1000) <;> simp only [go_sem, ↓reduceIte, Nat.reduceEqDiff, reduceCtorEq, Nat.reduceAdd, Nat.reduceLeDiff, Nat.reduceMul, h4]
  rotate_left
  · exact no (by have := of_decide_eq_true h4; simp [addOk]; intros; omega)
  have h4' : lastV l w + 1 ≤ 1000 := by have := of_decide_eq_false h4; omega
  generalize hn : lastV l w + 1 = n at *
  have s3 : SlRw (H2 ++ [[]]) (.slice (some ⟨H2.length, 0, some 3⟩) 0 (0 * 3)) [] := own_newR
  have o3 : OwnS H.length (.slice (some ⟨H2.length, 0, some 3⟩) 0 (0 * 3)) := .inr ⟨_, _, _, _, rfl, p2.length_le⟩
  have p3 : H <+: H2 ++ [[]] := p2.trans (List.prefix_append _ _)
  have dd : ∀ j ∈ idsOf v2, j ∉ idsOf (.slice (some ⟨H2.length, 0, some 3⟩) 0 (0 * 3)) := fun j hj h => by
    have := d2.ids j hj
    simp [idsOf] at h
    omega
  generalize (Value.slice (some ⟨H2.length, 0, some 3⟩) 0 (0 * 3)) = wv3 at s3 o3 dd ⊢
  have d2' := d2.pre (List.prefix_append H2 [[]])
  refine go_for l.length (fun i s => H <+: s.H ∧ s.ρ 0 = .val v ∧ s.ρ 1 = .val (.int .i64 w) ∧ s.ρ 2 = .val (.int .i64 k) ∧ s.ρ 8 = .val v2 ∧ s.ρ 9 = .val (.int .i64 n) ∧ s.ρ 11 = .val (.bool (insF w n k (l.take i)).1) ∧ s.ρ 12 = .val (.int .i64 i) ∧ SlRw s.H v2 l ∧ k ∉ keysR (l.take i) ∧ ∃ wv, s.ρ 10 = .val wv ∧ SlRw s.H wv (insF w n k (l.take i)).2 ∧ OwnS H.length wv ∧ ∀ j ∈ idsOf v2, j ∉ idsOf wv)
    (fun s => H <+: s.H ∧ s.ρ 1 = .val (.int .i64 w) ∧ s.ρ 2 = .val (.int .i64 k) ∧ s.ρ 9 = .val (.int .i64 n) ∧ s.ρ 11 = .val (.bool (insF w n k l).1) ∧ k ∉ keysR l ∧ ∃ wv, s.ρ 10 = .val wv ∧ SlRw s.H wv (insF w n k l).2 ∧ OwnS H.length wv) ?_ ?_ ?_
  · exact ⟨p3, by simp [upd, ini], by simp [upd, ini], by simp [upd, ini], by simp [upd], by simp [upd], by simp [upd, insF], by simp [upd], d2', by simp [keysR], wv3, by simp [upd], by simpa [insF] using s3, o3, dd⟩
  · rintro i s hi ⟨kH, k0, k1, k2, k8, k9, k11, k12, kv, kn, wv, k10, ks, ko, kd⟩
    have kl := hl.pre kH
    simp only [go_sem, ↓reduceIte, Nat.reduceEqDiff, reduceCtorEq, Nat.reduceAdd, Nat.reduceLeDiff, Nat.reduceMul, k0, k1, k2, k8, k9, k10, k11, k12, kl.len]
    refine brT.intro (fun q1 => ?_) (fun q1 => ?_) <;> simp only [go_sem, ↓reduceIte, Nat.reduceEqDiff, reduceCtorEq, Nat.reduceAdd, Nat.reduceLeDiff, Nat.reduceMul, k0, k1, k2, k8, k9, k10, k11, k12]
    rotate_left
    · have : i = l.length := by have := of_decide_eq_false q1; omega
      subst this
      rw [List.take_length] at ks kn
      exact ⟨kH, by rw [List.take_length], kn, wv, rfl, ks, ko⟩
    have hil : i < l.length := by have := of_decide_eq_true q1; omega
    obtain ⟨id, p, o, ho, hr, hpp, hia⟩ := kl.elem (List.getElem?_eq_getElem hil)
    unfold En at hr
    have g0 : o[p]? = some (.int .i64 l[i].1) := by simpa [eRw] using getElem?_of_take hr (j := 0) (by omega)
    have g2 : o[p + 2]? = some (.int .i64 l[i].2.2) := by simpa [eRw] using getElem?_of_take hr (j := 2) (by omega)
    have w1 := wrap64 ((i : Int) + 1) (by omega) (by omega)
    have hlen := insF_len2 w n k (l.take i)
    rw [List.length_take] at hlen
    have hs := insF_succ (w := w) (n := n) (k := k) hil
    simp only [go_sem, ↓reduceIte, Nat.reduceEqDiff, reduceCtorEq, Nat.reduceAdd, Nat.reduceLeDiff, Nat.reduceMul, k0, k1, k2, k8, k9, k10, k11, k12, hia, ho, g0, g2]
    refine brT.intro (fun q2 => ?_) (fun q2 => ?_) <;> simp only [go_sem, ↓reduceIte, Nat.reduceEqDiff, reduceCtorEq, Nat.reduceAdd, Nat.reduceLeDiff, Nat.reduceMul, k0, k1, k2, k8, k9, k10, k11, k12, hia, ho, g0, g2]
    · have hin : k ∈ keysR l := by
        rw [← of_decide_eq_true q2]
        exact List.mem_map.2 ⟨l[i], List.getElem_mem hil, rfl⟩
      have hadd : addOk l w k = false := by simp [addOk, keyIn, hin]
      rw [if_neg (by rw [hadd]; decide)]
      exact ⟨_, rfl, kH, kv, d3⟩
    have kn2 := keys_succ hil kn (of_decide_eq_false q2)
    cases hd : (insF w n k (l.take i)).1
    · rw [hd] at k11
      cases h5 : decide (l[i].1 > w)
      · have e : insF w n k (l.take (i + 1)) = (false, (insF w n k (l.take i)).2 ++ [l[i]]) := by
          rw [hs]
          unfold insS
          rw [if_neg (fun h => of_decide_eq_false h5 h.2), hd]
        obtain ⟨v5, H5, e1, e2, e3, e4, e5, e6⟩ := Sl.oneR2 (m := m) l[i] kv ks kd ko kH.length_le hw (by omega)
        have hr' : (o.drop p).take 3 = eRw l[i] := hr
        unfold eRw at hr' e1
        simp only [go_sem, ↓reduceIte, Nat.reduceEqDiff, reduceCtorEq, Nat.reduceAdd, Nat.reduceLeDiff, Nat.reduceMul, k0, k1, k2, k8, k9, k10, k11, k12, hia, ho, g0, g2, h5, hr', hpp]
        rw [e1]
        rotate_left
        · rfl
        · rfl
        · rfl
        simp only [go_sem, ↓reduceIte, Nat.reduceEqDiff, reduceCtorEq, Nat.reduceAdd, Nat.reduceLeDiff, Nat.reduceMul, k0, k1, k2, k8, k9, k10, k11, k12, w1]
        exact ⟨hil, e6 H (Nat.le_refl _) kH, by rw [e], by simp, e2, kn2, v5, rfl, by rw [e]; exact e3, e4, e5⟩
      · have e : insF w n k (l.take (i + 1)) = (true, (insF w n k (l.take i)).2 ++ [(w, n, k)] ++ [l[i]]) := by
          rw [hs]
          unfold insS
          rw [if_pos ⟨hd, of_decide_eq_true h5⟩]
        obtain ⟨v4, H4, c1, c2, c3, c4, c5, c6⟩ := Sl.oneR2 (m := m) (w, n, k) kv ks kd ko kH.length_le hw (by omega)
        have q4 := c6 H (Nat.le_refl _) kH
        obtain ⟨v5, H5, e1, e2, e3, e4, e5, e6⟩ := Sl.oneR2 (m := m) l[i] c2 c3 c5 c4 q4.length_le hw (by simp; omega)
        obtain ⟨id', p', o', ho', hr', hpp', hia'⟩ := (hl.pre q4).elem (List.getElem?_eq_getElem hil)
        have hr' : (o'.drop p').take 3 = eRw l[i] := hr'
        unfold eRw at c1 e1 hr'
        simp only [go_sem, ↓reduceIte, Nat.reduceEqDiff, reduceCtorEq, Nat.reduceAdd, Nat.reduceLeDiff, Nat.reduceMul, k0, k1, k2, k8, k9, k10, k11, k12, hia, ho, g0, g2, h5]
        rw [c1]
        rotate_left
        · rfl
        · rfl
        · rfl
        simp only [go_sem, ↓reduceIte, Nat.reduceEqDiff, reduceCtorEq, Nat.reduceAdd, Nat.reduceLeDiff, Nat.reduceMul, k0, k1, k2, k8, k9, k10, k11, k12, hia', ho', hr', hpp']
        rw [e1]
        rotate_left
        · rfl
        · rfl
        · rfl
        simp only [go_sem, ↓reduceIte, Nat.reduceEqDiff, reduceCtorEq, Nat.reduceAdd, Nat.reduceLeDiff, Nat.reduceMul, k0, k1, k2, k8, k9, k10, k11, k12, w1]
        exact ⟨hil, e6 H (Nat.le_refl _) q4, by rw [e], by simp, e2, kn2, v5, rfl, by rw [e]; exact e3, e4, e5⟩
    · rw [hd] at k11
      have e : insF w n k (l.take (i + 1)) = (true, (insF w n k (l.take i)).2 ++ [l[i]]) := by
        rw [hs]
        unfold insS
        rw [if_neg (fun h => by rw [hd] at h; exact absurd h.1 (by decide)), hd]
      obtain ⟨v5, H5, e1, e2, e3, e4, e5, e6⟩ := Sl.oneR2 (m := m) l[i] kv ks kd ko kH.length_le hw (by omega)
      have hr' : (o.drop p).take 3 = eRw l[i] := hr
      unfold eRw at hr' e1
      simp only [go_sem, ↓reduceIte, Nat.reduceEqDiff, reduceCtorEq, Nat.reduceAdd, Nat.reduceLeDiff, Nat.reduceMul, k0, k1, k2, k8, k9, k10, k11, k12, hia, ho, g0, g2, hr', hpp]
      rw [e1]
      rotate_left
      · rfl
      · rfl
      · rfl
      simp only [go_sem, ↓reduceIte, Nat.reduceEqDiff, reduceCtorEq, Nat.reduceAdd, Nat.reduceLeDiff, Nat.reduceMul, k0, k1, k2, k8, k9, k10, k11, k12, w1]
      exact ⟨hil, e6 H (Nat.le_refl _) kH, by rw [e], by simp, e2, kn2, v5, rfl, by rw [e]; exact e3, e4, e5⟩
  · rintro s ⟨kH, k1, k2, k9, k11, kn, wv, k10, ks, ko⟩
    have hadd : addOk l w k = true := by simp [addOk, keyIn, kn, h1, h2, h3', hn, h4']
    rw [if_pos hadd]
    have hlen := insF_len2 w n k l
    cases hd : (insF w n k l).1
    · rw [hd] at k11
      obtain ⟨v4, H4, c1, c2, c3, c4, c5, c6, c7⟩ := ks.oneRw (m := m) (w, n, k) ko kH.length_le hw (by omega)
      unfold eRw at c1
      simp only [go_sem, ↓reduceIte, Nat.reduceEqDiff, reduceCtorEq, Nat.reduceAdd, Nat.reduceLeDiff, Nat.reduceMul, k1, k2, k9, k10, k11]
      rw [c1]
      rotate_left
      · rfl
      · rfl
      · rfl
      simp only [go_sem, ↓reduceIte, Nat.reduceEqDiff, reduceCtorEq, Nat.reduceAdd, Nat.reduceLeDiff, Nat.reduceMul]
      refine ⟨_, rfl, c7 H (Nat.le_refl _) kH, ?_, c3⟩
      have e : insR w n k l = (insF w n k l).2 ++ [(w, n, k)] := by unfold insR; rw [if_neg (by rw [hd]; decide)]
      rw [e]
      exact c2
    · rw [hd] at k11
      simp only [go_sem, ↓reduceIte, Nat.reduceEqDiff, reduceCtorEq, Nat.reduceAdd, Nat.reduceLeDiff, Nat.reduceMul, k1, k2, k9, k10, k11]
      refine ⟨_, rfl, kH, ?_, ko⟩
      have e : insR w n k l = (insF w n k l).2 := by unfold insR; rw [if_pos hd]
      rw [e]
      exact ks
end Go.Proofs.Ytjepmnmakemfoaa.Ev

/- Draws of tables; the law TabText. -/
namespace Go.Proofs.Ytjepmnmakemfoaa.Ev
set_option linter.all false
open Go
set_option maxRecDepth 4000

theorem f27 {m : Md} {H : Hp} {v : Value} {l : List Rw} {most : Int} (hl : SlRw H v l) (hle : l.length ≤ 1000) (hw : Wr m H) : Fun EE m 27 [v, .int .i64 most] H fun r H' => ∃ l' : List Rw, FreshS eRw 3 H r H' l' ∧ l'.length ≤ l.length := by
  refine fun_f rfl rfl k27 (by simp [c27]) ?_
  have hroom := hl.room
  have p0 : H <+: H ++ [[]] := List.prefix_append _ _
  have s0 : SlRw (H ++ [[]]) (.slice (some ⟨H.length, 0, some 3⟩) 0 (0 * 3)) [] := own_newR
  have o0 : OwnS H.length (.slice (some ⟨H.length, 0, some 3⟩) 0 (0 * 3)) := .inr ⟨_, _, _, _, rfl, Nat.le_refl _⟩
  generalize hwv : Value.slice (some ⟨H.length, 0, some 3⟩) 0 (0 * 3) = wv0 at s0 o0
  simp only [go_sem, ↓reduceIte, Nat.reduceEqDiff, reduceCtorEq, Nat.reduceAdd, Nat.reduceLeDiff, Nat.reduceMul, c27, fillL, hwv]
  refine go_for l.length (fun i s => H <+: s.H ∧ s.ρ 0 = .val v ∧ s.ρ 1 = .val (.int .i64 most) ∧ s.ρ 6 = .val (.int .i64 i) ∧ ∃ wv l', s.ρ 5 = .val wv ∧ SlRw s.H wv l' ∧ OwnS H.length wv ∧ l'.length ≤ i)
    (fun s => H <+: s.H ∧ ∃ wv l', s.ρ 5 = .val wv ∧ SlRw s.H wv l' ∧ OwnS H.length wv ∧ l'.length ≤ l.length) ?_ ?_ ?_
  · exact ⟨p0, by simp [upd, ini], by simp [upd, ini], by simp [upd], wv0, [], by simp [upd], s0, o0, by simp⟩
  · rintro i s hi ⟨kH, k0, k1, k6, wv, l', k5, ks, ko, kl⟩
    have kv := hl.pre kH
    have a16 := fun {m draw t d ts Q} => callT_at (m := m) (draw := draw) (s := t) (d := d) (ts := ts) (Q := Q) (f16 kv)
    simp only [go_sem, ↓reduceIte, Nat.reduceEqDiff, reduceCtorEq, Nat.reduceAdd, Nat.reduceLeDiff, Nat.reduceMul, k0, k1, k5, k6, kv.len]
    cases q1 : decide ((i : Int) < (l.length : Int)) <;> simp only [go_sem, ↓reduceIte, Nat.reduceEqDiff, reduceCtorEq, Nat.reduceAdd, Nat.reduceLeDiff, Nat.reduceMul, k0, k1, k5, k6, q1]
    · exact ⟨kH, wv, l', rfl, ks, ko, by omega⟩
    have hil : i < l.length := by have := of_decide_eq_true q1; omega
    simp only [go_sem, ↓reduceIte, Nat.reduceEqDiff, reduceCtorEq, Nat.reduceAdd, Nat.reduceLeDiff, Nat.reduceMul, k0, k1, k5, k6, a16, hw.pre kH]
    cases q2 : tbOk l <;> simp only [go_sem, ↓reduceIte, Nat.reduceEqDiff, reduceCtorEq, Nat.reduceAdd, Nat.reduceLeDiff, Nat.reduceMul, k0, k1, k5, k6, q2]
    · exact ⟨kH, wv, l', rfl, ks, ko, by omega⟩
    have w1 := wrap64 ((i : Int) + 1) (by omega) (by omega)
    simp only [go_sem, ↓reduceIte, Nat.reduceEqDiff, reduceCtorEq, Nat.reduceAdd, Nat.reduceLeDiff, Nat.reduceMul, k0, k1, k5, k6, w1]
    refine go_for (l.length - (i + 1)) (fun j t => t.H = s.H ∧ t.ρ 0 = .val v ∧ t.ρ 1 = .val (.int .i64 most) ∧ t.ρ 5 = .val wv ∧ t.ρ 6 = .val (.int .i64 i) ∧ (∃ n : Int, t.ρ 7 = .val (.int .i64 n)) ∧ t.ρ 8 = .val (.int .i64 ((i + 1 + j : Nat) : Int)))
      (fun t => t.H = s.H ∧ t.ρ 0 = .val v ∧ t.ρ 1 = .val (.int .i64 most) ∧ t.ρ 5 = .val wv ∧ t.ρ 6 = .val (.int .i64 i) ∧ ∃ n : Int, t.ρ 7 = .val (.int .i64 n)) ?_ ?_ ?_
    · exact ⟨rfl, by simp [upd, k0], by simp [upd, k1], by simp [upd, k5], by simp [upd, k6], ⟨0, by simp [upd]⟩, by simp [upd]⟩
    · rintro j t hj ⟨tH, t0, t1, t5, t6, ⟨n, t7⟩, t8⟩
      simp only [go_sem, ↓reduceIte, Nat.reduceEqDiff, reduceCtorEq, Nat.reduceAdd, Nat.reduceLeDiff, Nat.reduceMul, t0, t1, t5, t6, t7, t8, tH, kv.len]
      refine brT.intro (fun q3 => ?_) (fun q3 => ?_) <;> simp only [go_sem, ↓reduceIte, Nat.reduceEqDiff, reduceCtorEq, Nat.reduceAdd, Nat.reduceLeDiff, Nat.reduceMul, t0, t1, t5, t6, t7, t8]
      · have hjl : i + 1 + j < l.length := by have := of_decide_eq_true q3; omega
        obtain ⟨id, p, o, ho, hr, hpp, hia⟩ := kv.elem (List.getElem?_eq_getElem hil)
        unfold En at hr
        have g0 : o[p]? = some (.int .i64 l[i].1) := by simpa [eRw] using getElem?_of_take hr (j := 0) (by omega)
        obtain ⟨id', p', o', ho', hr', hpp', hia'⟩ := kv.elem (List.getElem?_eq_getElem hjl)
        unfold En at hr'
        have g0' : o'[p']? = some (.int .i64 l[i + 1 + j].1) := by simpa [eRw] using getElem?_of_take hr' (j := 0) (by omega)
        refine go_draw ?_
        simp only [go_sem, ↓reduceIte, Nat.reduceEqDiff, reduceCtorEq, Nat.reduceAdd, Nat.reduceLeDiff, Nat.reduceMul, t0, t1, t5, t6, t7, t8, hia, tH, ho, g0, hia', ho', g0']
        have w2 := wrap64 (((i + 1 + j : Nat) : Int) + 1) (by omega) (by omega)
        refine ⟨by rfl, ?_⟩
        refine brT.intro (fun q4 => ?_) (fun q4 => ?_) <;> simp only [go_sem, ↓reduceIte, Nat.reduceEqDiff, reduceCtorEq, Nat.reduceAdd, Nat.reduceLeDiff, Nat.reduceMul, t0, t1, t5, t6, t7, t8, w2]
        · exact ⟨by omega, ⟨_, rfl⟩, by congr 2⟩
        · exact ⟨by omega, ⟨_, rfl⟩, by congr 2⟩
      · exact ⟨_, rfl⟩
    · rintro t ⟨tH, t0, t1, t5, t6, n, t7⟩
      simp only [go_sem, ↓reduceIte, Nat.reduceEqDiff, reduceCtorEq, Nat.reduceAdd, Nat.reduceLeDiff, Nat.reduceMul, t0, t1, t5, t6, t7]
      refine brT.intro (fun q5 => ?_) (fun q5 => ?_) <;> simp only [go_sem, ↓reduceIte, Nat.reduceEqDiff, reduceCtorEq, Nat.reduceAdd, Nat.reduceLeDiff, Nat.reduceMul, t0, t1, t5, t6, t7, w1]
      · obtain ⟨id, p, o, ho, hr, hpp, hia⟩ := kv.elem (List.getElem?_eq_getElem hil)
        have hr : (o.drop p).take 3 = eRw l[i] := hr
        obtain ⟨v5, H5, e1, e2, e3, e4, e5, e6, e7⟩ := ks.oneRw (m := m) l[i] ko kH.length_le hw (by omega)
        unfold eRw at hr e1
        simp only [go_sem, ↓reduceIte, Nat.reduceEqDiff, reduceCtorEq, Nat.reduceAdd, Nat.reduceLeDiff, Nat.reduceMul, t0, t1, t5, t6, t7, hia, tH, ho, hr, hpp]
        rw [e1]
        rotate_left
        · rfl
        · rfl
        · rfl
        simp only [go_sem, ↓reduceIte, Nat.reduceEqDiff, reduceCtorEq, Nat.reduceAdd, Nat.reduceLeDiff, Nat.reduceMul, t0, t1, t5, t6, t7, w1]
        exact ⟨hil, e7 H (Nat.le_refl _) kH, by simp, v5, _, rfl, e2, e3, by simp; omega⟩
      · exact ⟨hil, by rw [tH]; exact kH, by simp, wv, l', rfl, by rw [tH]; exact ks, ko, by omega⟩
  · rintro s ⟨kH, wv, l', k5, ks, ko, kl⟩
    simp only [go_sem, ↓reduceIte, Nat.reduceEqDiff, reduceCtorEq, Nat.reduceAdd, Nat.reduceLeDiff, Nat.reduceMul, k5]
    exact ⟨l', ⟨kH, ks, ko⟩, kl⟩

def TdR (H : Hp) (c : Value) (id : Nat) (r : Value) (H' : Hp) : Prop := ∃ l : List Rw, SlRw H' r l ∧ OwnS H.length r ∧ CX H H' c id ∧ l.length ≤ 20
theorem f65 {m : Md} {H : Hp} {c : Value} {id : Nat} (hc : Cur H c id) (hw0 : Wr m H) (hw : m.wr id = true) : Fun EE m 65 [c] H fun r H' => TdR H c id r H' := by
  refine fun_f rfl rfl k65 (by simp [c65]) ?_
  have hidl := hc.lt
  have p0 : H <+: H ++ [[]] := List.prefix_append _ _
  have own0 : SlRw (H ++ [[]]) (.slice (some ⟨H.length, 0, some 3⟩) 0 (0 * 3)) [] := own_newR
  simp only [go_sem, ↓reduceIte, Nat.reduceEqDiff, reduceCtorEq, Nat.reduceAdd, Nat.reduceLeDiff, Nat.reduceMul, c65, fillL]
  refine callD (f89 (hc.pre p0) hw) rfl fun r H2 ⟨k0, e, hk0, hk1, _, cs2⟩ => ?_
  subst e
  obtain ⟨k, rfl⟩ : ∃ k : Nat, k0 = k := ⟨k0.toNat, by omega⟩
  have hk := hk1 (by omega)
  have own2 : SlRw H2 (.slice (some ⟨H.length, 0, some 3⟩) 0 (0 * 3)) [] := own0.cs cs2 (by simp [idsOf]; omega)
  have cxA : CX H H2 c id := (CX.ofPre hc p0).trans cs2.cx
  simp only [go_sem, ↓reduceIte, Nat.reduceEqDiff, reduceCtorEq, Nat.reduceAdd, Nat.reduceLeDiff, Nat.reduceMul]
  refine go_loop (fun n t => t.ρ 0 = .val c ∧ (∃ w : Int, t.ρ 4 = .val (.int .i64 w)) ∧ t.ρ 5 = .val (.int .i64 n) ∧ n ≤ 12 ∧ CX H t.H c id ∧ ∃ wv l, t.ρ 3 = .val wv ∧ SlRw t.H wv l ∧ OwnS H.length wv ∧ l.length ≤ 20)
    (fun t => t.ρ 0 = .val c ∧ CX H t.H c id ∧ ∃ wv l, t.ρ 3 = .val wv ∧ SlRw t.H wv l ∧ OwnS H.length wv ∧ l.length ≤ 20) k ?_ ?_ ?_
  · exact ⟨by simp [upd, ini], ⟨5, by simp [upd]⟩, by simp [upd], by omega, cxA, _, [], by simp [upd], own2, .inr ⟨_, _, _, _, rfl, Nat.le_refl _⟩, by simp⟩
  · rintro n t ⟨k0, ⟨w, k4⟩, k5, kn, kc, wv, l, k3, ks, ko, kl⟩
    simp only [go_sem, ↓reduceIte, Nat.reduceEqDiff, reduceCtorEq, Nat.reduceAdd, Nat.reduceLeDiff, Nat.reduceMul, k0, k3, k4, k5]
    refine brT.intro (fun q => ?_) (fun q => ?_) <;> simp only [go_sem, ↓reduceIte, Nat.reduceEqDiff, reduceCtorEq, Nat.reduceAdd, Nat.reduceLeDiff, Nat.reduceMul, k0, k3, k4, k5]
    rotate_left
    · exact ⟨kc, wv, l, rfl, ks, ko, by omega⟩
    have hn : 0 < n := by have := of_decide_eq_true q; omega
    refine callD (f89 kc.1 hw) rfl fun r H3 ⟨x3, e, _, _, _, cs3⟩ => ?_
    subst e
    have s3 : SlRw H3 wv l := ks.cs cs3 (fun h => by have := own_geD ko id h; omega)
    have kc3 := kc.trans cs3.cx
    simp only [go_sem, ↓reduceIte, Nat.reduceEqDiff, reduceCtorEq, Nat.reduceAdd, Nat.reduceLeDiff, Nat.reduceMul, k0, k3, k4, k5]
    refine callT_to (fun m' h => f36 s3 h) rfl (fun j hj => hw0 j (by have := kc3.2.2; omega)) fun r H4 ⟨u, e, p4, s4, o4⟩ => ?_
    subst e
    have kc4 := kc3.trans (CX.ofPre kc3.1 p4)
    have hl4 := addT_len l x3 w
    simp only [go_sem, ↓reduceIte, Nat.reduceEqDiff, reduceCtorEq, Nat.reduceAdd, Nat.reduceLeDiff, Nat.reduceMul, k0, k3, k4, k5, List.getElem?_toArray, ofV]
    refine callD (f89 kc4.1 hw) rfl fun r H5 ⟨x5, e, _, _, _, cs5⟩ => ?_
    subst e
    have o4' : OwnS H.length u := o4.mono kc3.2.2
    have s5 := s4.cs cs5 (fun h => by have := own_geD o4' id h; omega)
    simp only [go_sem, ↓reduceIte, Nat.reduceEqDiff, reduceCtorEq, Nat.reduceAdd, Nat.reduceLeDiff, Nat.reduceMul, k0, k3, k4, k5, wrap64 ((n : Int) - 1) (by omega) (by omega)]
    exact ⟨n - 1, by omega, ⟨_, rfl⟩, by congr 2; omega, by omega, kc4.trans cs5.cx, u, _, rfl, s5, o4', hl4⟩
  · rintro t ⟨k0, kc, wv, l, k3, ks, ko, kl⟩
    simp only [go_sem, ↓reduceIte, Nat.reduceEqDiff, reduceCtorEq, Nat.reduceAdd, Nat.reduceLeDiff, Nat.reduceMul, k0, k3]
    refine callD (f66 kc.1 hw) rfl fun r H3 ⟨b3, e, cs3⟩ => ?_
    subst e
    have kc3 := kc.trans cs3.cx
    have s3 : SlRw H3 wv l := ks.cs cs3 (fun h => by have := own_geD ko id h; omega)
    simp only [go_sem, ↓reduceIte, Nat.reduceEqDiff, reduceCtorEq, Nat.reduceAdd, Nat.reduceLeDiff, Nat.reduceMul, k0, k3]
    refine brT.intro (fun q1 => ?_) (fun q1 => ?_)
    rotate_left
    obtain ⟨H5, u, lu, e1, e2, s5, o5, c5, l5⟩ : ∃ (H5 : Hp) (u : Value) (lu : List Rw), H5 = H3 ∧ u = wv ∧ SlRw H5 u lu ∧ OwnS H.length u ∧ CX H H5 c id ∧ lu.length ≤ 20 := ⟨H3, wv, l, rfl, rfl, s3, ko, kc3, kl⟩
    subst e1 e2
    simp only [go_sem, ↓reduceIte, Nat.reduceEqDiff, reduceCtorEq, Nat.reduceAdd, Nat.reduceLeDiff, Nat.reduceMul, k0, k3, s5.len]
    rotate_left
    simp only [go_sem, ↓reduceIte, Nat.reduceEqDiff, reduceCtorEq, Nat.reduceAdd, Nat.reduceLeDiff, Nat.reduceMul, k0, k3]
    refine callD (f89 kc3.1 hw) rfl fun r H4 ⟨x4, e, _, _, _, cs4⟩ => ?_
    subst e
    have kc4 := kc3.trans cs4.cx
    have s4 : SlRw H4 wv l := s3.cs cs4 (fun h => by have := own_geD ko id h; omega)
    simp only [go_sem, ↓reduceIte, Nat.reduceEqDiff, reduceCtorEq, Nat.reduceAdd, Nat.reduceLeDiff, Nat.reduceMul, k0, k3]
    refine callT_to (fun m' h => f27 s4 (by omega) h) rfl (fun j hj => hw0 j (by have := kc4.2.2; omega)) fun u H5 ⟨lu, ⟨p5, s5, o5⟩, l5⟩ => ?_
    have c5 := kc4.trans (CX.ofPre kc4.1 p5)
    have o5 := o5.mono kc4.2.2
    have l5 : lu.length ≤ 20 := by omega
    simp only [go_sem, ↓reduceIte, Nat.reduceEqDiff, reduceCtorEq, Nat.reduceAdd, Nat.reduceLeDiff, Nat.reduceMul, k0, k3, s5.len]
    all_goals (
      clear s3 ks ko kc kl kc3
      have done : TdR H c id u H5 := ⟨lu, s5, o5, c5, l5⟩
      cases q : decide ((lu.length : Int) > 0) <;> simp only [go_sem, ↓reduceIte, Nat.reduceEqDiff, reduceCtorEq, Nat.reduceAdd, Nat.reduceLeDiff, Nat.reduceMul, k0, k3, q]
      · exact done
      have hl0 : 0 < lu.length := by have := of_decide_eq_true q; omega
      refine callD (f66 c5.1 hw) rfl fun r H6 ⟨b6, e, cs6⟩ => ?_
      subst e
      have c6 := c5.trans cs6.cx
      have s6 : SlRw H6 u lu := s5.cs cs6 (fun h => by have := own_geD o5 id h; omega)
      simp only [go_sem, ↓reduceIte, Nat.reduceEqDiff, reduceCtorEq, Nat.reduceAdd, Nat.reduceLeDiff, Nat.reduceMul, k0, k3]
      refine brT.intro (fun q2 => ?_) (fun q2 => ?_) <;> simp only [go_sem, ↓reduceIte, Nat.reduceEqDiff, reduceCtorEq, Nat.reduceAdd, Nat.reduceLeDiff, Nat.reduceMul, k0, k3, s6.len]
      rotate_left
      · exact ⟨lu, s6, o5, c6, l5⟩
      refine callD (f89 c6.1 hw) rfl fun r H7 ⟨x7, e, hx0, hx1, _, cs7⟩ => ?_
      subst e
      obtain ⟨x, rfl⟩ : ∃ x : Nat, x7 = x := ⟨x7.toNat, by omega⟩
      have hx : x < lu.length := by have := hx1 (by omega); omega
      have c7 := c6.trans cs7.cx
      have s7 : SlRw H7 u lu := s6.cs cs7 (fun h => by have := own_geD o5 id h; omega)
      simp only [go_sem, ↓reduceIte, Nat.reduceEqDiff, reduceCtorEq, Nat.reduceAdd, Nat.reduceLeDiff, Nat.reduceMul, k0, k3]
      refine callD (f89 c7.1 hw) rfl fun r H8 ⟨x8, e, _, _, _, cs8⟩ => ?_
      subst e
      have c8 := c7.trans cs8.cx
      have s8 : SlRw H8 u lu := s7.cs cs8 (fun h => by have := own_geD o5 id h; omega)
      have n8 : H.length ≤ H8.length := c8.2.2
      have fin : ∀ (Ha : Hp) (z : Rw) (j : Nat) (y : Value), SlRw Ha u lu → CX H Ha c id → (eRw lu[x]).set j y = eRw z → j < 3 → ∀ id2 p o, Ha[id2]? = some o → p + 3 ≤ o.length → idsOf u = [id2] → En eRw lu[x] ((o.drop p).take 3) → (∀ a cs, cs.length = 3 → En eRw a cs → SlRw (Ha.set id2 (spl o p cs)) u (lu.set x a)) → TdR H c id u (Ha.set id2 (spl o (p + j) [y])) := fun Ha z j y hsl hcx hz hj id2 p o ho hp hid hel hst => by
        rw [spl_one hel hj hp, hz]
        have hN : H.length ≤ id2 := own_geD o5 id2 (by rw [hid]; simp)
        exact ⟨lu.set x z, hst z _ rfl rfl, o5, hcx.own hidl (fun j hj => List.getElem?_set_ne (by omega)) (by simp), by simp; omega⟩
      have zb : ∀ {Ha : Hp} {id2 : Nat}, idsOf u = [id2] → m.wr id2 = true := fun hid => hw0 _ (own_geD o5 _ (by rw [hid]; simp))
      have pick : ∀ L : List Int, L ≠ [] → True := fun _ _ => trivial
      simp only [go_sem, ↓reduceIte, Nat.reduceEqDiff, reduceCtorEq, Nat.reduceAdd, Nat.reduceLeDiff, Nat.reduceMul, k0, k3]
      refine brT.intro (fun q3 => ?_) (fun q3 => ?_) <;> simp only [go_sem, ↓reduceIte, Nat.reduceEqDiff, reduceCtorEq, Nat.reduceAdd, Nat.reduceLeDiff, Nat.reduceMul, k0, k3, fillL]
      · have hl3 := sl_ints (H := H8) [-1, 1, 99, 100] (by simp)
        have pn := List.prefix_append H8 [[(-1 : Int), 1, 99, 100].map (Value.int .i64)]
        have cn := c8.trans (CX.ofPre c8.1 pn)
        have sn := s8.pre pn
        refine callD (f71 cn.1 hw hl3 (by simp) (by simp [idsOf]; omega)) rfl fun r H9 ⟨y, _, e, cs9⟩ => ?_
        subst e
        have s9 : SlRw H9 u lu := sn.cs cs9 (fun h => by have := own_geD o5 id h; omega)
        obtain ⟨id2, p, o, ho, hp, hid, hel, hia, hst⟩ := s9.both hx
        have hp1 : p + 1 ≤ o.length := by omega
        have wid := zb (Ha := H9) hid
        simp only [go_sem, ↓reduceIte, Nat.reduceEqDiff, reduceCtorEq, Nat.reduceAdd, Nat.reduceLeDiff, Nat.reduceMul, k0, k3, hia, ho, hp1, wid]
        exact fin H9 (y, lu[x].2.1, lu[x].2.2) 0 (.int .i64 y) s9 (cn.trans cs9.cx) rfl (by omega) id2 p o ho hp hid hel hst
      refine brT.intro (fun q4 => ?_) (fun q4 => ?_) <;> simp only [go_sem, ↓reduceIte, Nat.reduceEqDiff, reduceCtorEq, Nat.reduceAdd, Nat.reduceLeDiff, Nat.reduceMul, k0, k3, fillL]
      · have hl3 := sl_ints (H := H8) [0, 1, 1000, 1001] (by simp)
        have pn := List.prefix_append H8 [[(0 : Int), 1, 1000, 1001].map (Value.int .i64)]
        have cn := c8.trans (CX.ofPre c8.1 pn)
        have sn := s8.pre pn
        refine callD (f71 cn.1 hw hl3 (by simp) (by simp [idsOf]; omega)) rfl fun r H9 ⟨y, _, e, cs9⟩ => ?_
        subst e
        have s9 : SlRw H9 u lu := sn.cs cs9 (fun h => by have := own_geD o5 id h; omega)
        obtain ⟨id2, p, o, ho, hp, hid, hel, hia, hst⟩ := s9.both hx
        have hp1 : p + 1 + 1 ≤ o.length := by omega
        have wid := zb (Ha := H9) hid
        simp only [go_sem, ↓reduceIte, Nat.reduceEqDiff, reduceCtorEq, Nat.reduceAdd, Nat.reduceLeDiff, Nat.reduceMul, k0, k3, hia, ho, hp1, wid]
        exact fin H9 (lu[x].1, y, lu[x].2.2) 1 (.int .i64 y) s9 (cn.trans cs9.cx) rfl (by omega) id2 p o ho hp hid hel hst
      · have hl3 := sl_ints (H := H8) [0, 6, 1000001] (by simp)
        have pn := List.prefix_append H8 [[(0 : Int), 6, 1000001].map (Value.int .i64)]
        have cn := c8.trans (CX.ofPre c8.1 pn)
        have sn := s8.pre pn
        refine callD (f71 cn.1 hw hl3 (by simp) (by simp [idsOf]; omega)) rfl fun r H9 ⟨y, _, e, cs9⟩ => ?_
        subst e
        have s9 : SlRw H9 u lu := sn.cs cs9 (fun h => by have := own_geD o5 id h; omega)
        obtain ⟨id2, p, o, ho, hp, hid, hel, hia, hst⟩ := s9.both hx
        have hp1 : p + 2 + 1 ≤ o.length := by omega
        have wid := zb (Ha := H9) hid
        simp only [go_sem, ↓reduceIte, Nat.reduceEqDiff, reduceCtorEq, Nat.reduceAdd, Nat.reduceLeDiff, Nat.reduceMul, k0, k3, hia, ho, hp1, wid]
        exact fin H9 (lu[x].1, lu[x].2.1, y) 2 (.int .i64 y) s9 (cn.trans cs9.cx) rfl (by omega) id2 p o ho hp hid hel hst)

theorem f34 {m : Md} {H : Hp} {v : Value} {cl : List Int} (hv : SlU H v cl) (hw : Wr m H) : Fun EE m 34 [v] H fun r H' => ∃ l, FreshS eRw 3 H r H' l ∧ l.length ≤ 20 := by
  refine fun_f rfl rfl k34 (by simp [c34]) ?_
  simp only [go_sem, ↓reduceIte, Nat.reduceEqDiff, reduceCtorEq, Nat.reduceAdd, Nat.reduceLeDiff, Nat.reduceMul, c34]
  refine callD (f64 hv) rfl fun r H1 ⟨c1, p1, n1⟩ => ?_
  have w1 := hw.pre p1
  simp only [go_sem, ↓reduceIte, Nat.reduceEqDiff, reduceCtorEq, Nat.reduceAdd, Nat.reduceLeDiff, Nat.reduceMul]
  refine callD (f65 c1 w1 (hw _ (Nat.le_refl _))) rfl fun r2 H2 ⟨l, s2, o2, cx2, hl⟩ => ?_
  simp only [go_sem, ↓reduceIte, Nat.reduceEqDiff, reduceCtorEq, Nat.reduceAdd, Nat.reduceLeDiff, Nat.reduceMul]
  exact ⟨l, ⟨cx2.pre p1 (Nat.le_refl _), s2, o2.mono (by omega)⟩, hl⟩
theorem f35 {m : Md} {H : Hp} {v : Value} {cl : List Int} (hv : SlU H v cl) (hw : Wr m H) : Fun EE m 35 [v] H fun r H' => ∃ s : ByteArray, r = .string s ∧ s.size ≤ 1000 ∧ H <+: H' := by
  refine fun_f rfl rfl k35 (by simp [c35]) ?_
  simp only [go_sem, ↓reduceIte, Nat.reduceEqDiff, reduceCtorEq, Nat.reduceAdd, Nat.reduceLeDiff, Nat.reduceMul, c35]
  refine callD (f64 hv) rfl fun r H1 ⟨c1, p1, n1⟩ => ?_
  have w1 := hw.pre p1
  have wid := hw H.length (Nat.le_refl _)
  simp only [go_sem, ↓reduceIte, Nat.reduceEqDiff, reduceCtorEq, Nat.reduceAdd, Nat.reduceLeDiff, Nat.reduceMul]
  refine callD (f65 c1 w1 wid) rfl fun r2 H2 ⟨l, s2, o2, cx2, hl⟩ => ?_
  have p2 := cx2.pre p1 (Nat.le_refl _)
  have w2 := hw.pre p2
  have a25 := fun {m draw t d ts Q} => callT_at (m := m) (draw := draw) (s := t) (d := d) (ts := ts) (Q := Q) (f25 s2)
  have hz := showB_size l
  simp only [go_sem, ↓reduceIte, Nat.reduceEqDiff, reduceCtorEq, Nat.reduceAdd, Nat.reduceLeDiff, Nat.reduceMul, a25, w2]
  refine callD (f66 cx2.1 wid) rfl fun r3 H3 ⟨b, e, cs3⟩ => ?_
  subst e
  have cx3 := cx2.trans cs3.cx
  have p3 := cx3.pre p1 (Nat.le_refl _)
  simp only [go_sem, ↓reduceIte, Nat.reduceEqDiff, reduceCtorEq, Nat.reduceAdd, Nat.reduceLeDiff, Nat.reduceMul]
  refine brT.intro (fun q1 => ?_) (fun q1 => ?_) <;> simp only [go_sem, ↓reduceIte, Nat.reduceEqDiff, reduceCtorEq, Nat.reduceAdd, Nat.reduceLeDiff, Nat.reduceMul]
  · refine callD (f67 cx3.1 (s := showB l) (by omega) (hw.pre p3) wid) rfl fun r4 H4 ⟨t, e, ht, cs4⟩ => ?_
    subst e
    have p4 := (cx3.trans cs4.cx).pre p1 (Nat.le_refl _)
    simp only [go_sem, ↓reduceIte, Nat.reduceEqDiff, reduceCtorEq, Nat.reduceAdd, Nat.reduceLeDiff, Nat.reduceMul]
    exact ⟨t, rfl, by omega, p4⟩
  · exact ⟨_, rfl, by omega, p3⟩

theorem law9 {m : Md} {H : Hp} {v : Value} {cl : List Int} (hv : SlU H v cl) (hw : Wr m H) : Fun EE m 9 [v] H fun r _ => r = .bool true := by
  refine fun_f rfl rfl k9 (by simp [c9]) ?_
  have a33 := fun {m draw t d ts Q} => callT_at (m := m) (draw := draw) (s := t) (d := d) (ts := ts) (Q := Q) (f33 hv)
  simp only [go_sem, ↓reduceIte, Nat.reduceEqDiff, reduceCtorEq, Nat.reduceAdd, Nat.reduceLeDiff, Nat.reduceMul, c9, a33, hw]
  refine brT.intro (fun q0 => ?_) (fun q0 => ?_) <;> simp only [go_sem, ↓reduceIte, Nat.reduceEqDiff, reduceCtorEq, Nat.reduceAdd, Nat.reduceLeDiff, Nat.reduceMul]
  refine callD (f34 hv hw) rfl fun w H1 ⟨l, ⟨p1, s1, o1⟩, hl⟩ => ?_
  have w1 := hw.pre p1
  have hz := showB_size l
  have a26 := fun {m draw t d ts Q} => callT_at (m := m) (draw := draw) (s := t) (d := d) (ts := ts) (Q := Q) (f26 s1)
  simp only [go_sem, ↓reduceIte, Nat.reduceEqDiff, reduceCtorEq, Nat.reduceAdd, Nat.reduceLeDiff, Nat.reduceMul, a26, w1]
  refine callT_to (fun m' h => f32 (s := showB l) (by omega) h) rfl w1 fun r2 H2 ⟨u2, l2, ok2, e, ⟨p2, s2, o2⟩, b2⟩ => ?_
  subst e
  have w2 := w1.pre p2
  have hv2 := (hv.pre p1).pre p2
  simp only [go_sem, ↓reduceIte, Nat.reduceEqDiff, reduceCtorEq, Nat.reduceAdd, Nat.reduceLeDiff, Nat.reduceMul, List.getElem?_toArray, ofV]
  refine callD (f35 hv2 w2) rfl fun r3 H3 ⟨s, e, hs, p3⟩ => ?_
  subst e
  have w3 := w2.pre p3
  simp only [go_sem, ↓reduceIte, Nat.reduceEqDiff, reduceCtorEq, Nat.reduceAdd, Nat.reduceLeDiff, Nat.reduceMul]
  refine callT_to (fun m' h => f32 (s := s) (by omega) h) rfl w3 fun r4 H4 ⟨u4, l4, ok4, e, ⟨p4, s4, o4⟩, b4⟩ => ?_
  subst e
  have w4 := w3.pre p4
  simp only [go_sem, ↓reduceIte, Nat.reduceEqDiff, reduceCtorEq, Nat.reduceAdd, Nat.reduceLeDiff, Nat.reduceMul, List.getElem?_toArray, ofV]
  refine callT_to (fun m' h => f31 (s := s) (by omega) h) rfl w4 fun r5 H5 ⟨u5, l5, ok5, e, ⟨p5, s5, o5⟩, b5⟩ => ?_
  obtain ⟨rfl, rfl⟩ := b5.unique b4
  subst e
  have w5 := w4.pre p5
  have t1 := (((s1.pre p2).pre p3).pre p4).pre p5
  have t2 := ((s2.pre p3).pre p4).pre p5
  have t4 := s4.pre p5
  have c16' := fun {m draw t d ts Q} => callT_at (m := m) (draw := draw) (s := t) (d := d) (ts := ts) (Q := Q) (f16 t1)
  have c25a := fun {m draw t d ts Q} => callT_at (m := m) (draw := draw) (s := t) (d := d) (ts := ts) (Q := Q) (f25 t2)
  have c25b := fun {m draw t d ts Q} => callT_at (m := m) (draw := draw) (s := t) (d := d) (ts := ts) (Q := Q) (f25 t1)
  have c26' := fun {m draw t d ts Q} => callT_at (m := m) (draw := draw) (s := t) (d := d) (ts := ts) (Q := Q) (f26 t4)
  have hB : ∀ b : Bool, decide (b = b) = true := fun b => by simp
  obtain ⟨hok, hsame⟩ := RB_show b2
  have htext := RB_text b4
  rw [← hok] at c16'
  simp only [go_sem, ↓reduceIte, Nat.reduceEqDiff, reduceCtorEq, Nat.reduceAdd, Nat.reduceLeDiff, Nat.reduceMul, List.getElem?_toArray, ofV, c16', w5, beqK, hB]
  cases ok2 with
  | true =>
    have e2 := hsame rfl
    subst e2
    have hd : decide (showB l2 = showB l2) = true := by simp
    cases ok5 with
    | true =>
      have ht := htext rfl
      have hd2 : decide (showB l5 = s) = true := decide_eq_true ht
      simp only [go_sem, ↓reduceIte, Nat.reduceEqDiff, reduceCtorEq, Nat.reduceAdd, Nat.reduceLeDiff, Nat.reduceMul, c25a, c25b, c26', w5, beqK, hB, hd, hd2]
    | false => simp only [go_sem, ↓reduceIte, Nat.reduceEqDiff, reduceCtorEq, Nat.reduceAdd, Nat.reduceLeDiff, Nat.reduceMul, c25a, c25b, c26', w5, beqK, hB, hd]
  | false =>
    cases ok5 with
    | true =>
      have ht := htext rfl
      have hd2 : decide (showB l5 = s) = true := decide_eq_true ht
      simp only [go_sem, ↓reduceIte, Nat.reduceEqDiff, reduceCtorEq, Nat.reduceAdd, Nat.reduceLeDiff, Nat.reduceMul, c25a, c25b, c26', w5, beqK, hB, hd2]
    | false => simp only [go_sem, ↓reduceIte, Nat.reduceEqDiff, reduceCtorEq, Nat.reduceAdd, Nat.reduceLeDiff, Nat.reduceMul, c25a, c25b, c26', w5, beqK, hB]
end Go.Proofs.Ytjepmnmakemfoaa.Ev
