/- Texts of this proof, laid one behind the other: what each shows stands at its head. -/
import Derived.Test.YtdplmjlbkaipiaaB3
import Derived.Test.YtdplmjlbkaipiaaProg
import Derived.Shelf.Sort.Plain
import Derived.Shelf.Slices.In.SortNone
/- Code of the program's functions, as the small machine has it: written by mkcode.py. -/
namespace Go.Proofs.Ytdplmjlbkaipiaa.Ev
set_option linter.all false
open Go
def c5 : CF := ⟨79, (.seq (.reg false [⟨(some 6), .none, (.mov (.c (.bool false))), 0, []⟩]) (.seq (.reg false [⟨(some 7), .none, (.mov (.c (.int .i64 1048576))), 0, []⟩]) (.seq (.reg false [⟨(some 15), .none, (.mov (.t 0)), 0, []⟩, ⟨(some 16), .none, (.mov (.t 7)), 1, []⟩, ⟨(some 17), .none, (.call 15 [(.t 15), (.t 16)]), 2, []⟩, ⟨(some 7), .none, (.mov (.t 17)), 3, []⟩]) (.seq (.seq (.reg false [⟨(some 18), .none, (.mov (.t 7)), 0, []⟩, ⟨(some 19), .none, (.bin .lss (.t 18) (.c (.int .i64 0))), 1, []⟩]) (.cond (.t 19) (.seq (.reg false [⟨(some 6), .none, (.mov (.c (.bool true))), 0, []⟩]) .ret) .skip)) (.seq (.reg false [⟨(some 20), .none, (.mov (.t 0)), 0, []⟩, ⟨(some 21), .none, (.call 17 [(.t 20)]), 1, []⟩, ⟨(some 22), .none, (.mov (.t 1)), 2, []⟩, ⟨(some 23), .none, (.mov (.t 2)), 3, []⟩, ⟨(some 24), .none, (.call 24 [(.t 21), (.t 22), (.t 23)]), 4, []⟩, ⟨(some 8), .none, (.mov (.t 24)), 5, []⟩]) (.seq (.reg false [⟨(some 25), .none, (.mov (.t 0)), 0, []⟩, ⟨(some 26), .none, (.call 17 [(.t 25)]), 1, []⟩, ⟨(some 9), .none, (.mov (.t 26)), 2, []⟩]) (.seq (.reg false [⟨(some 27), .none, (.mov (.t 9)), 0, []⟩, ⟨(some 28), .none, (.mov (.t 1)), 1, []⟩, ⟨(some 29), .none, (.mov (.t 2)), 2, []⟩, ⟨(some 30), .none, (.call 25 [(.t 27), (.t 28), (.t 29)]), 3, []⟩, ⟨(some 10), .none, (.mov (.t 30)), 4, []⟩]) (.seq (.seq (.reg false [⟨(some 31), .none, (.mov (.t 10)), 0, []⟩, ⟨(some 32), .none, (.mov (.t 8)), 1, []⟩, ⟨(some 33), .none, (.call 23 [(.t 31), (.t 32)]), 2, []⟩, ⟨(some 34), .none, (.un .not (.t 33)), 3, []⟩]) (.cond (.t 34) (.seq (.reg false [⟨(some 6), .none, (.mov (.c (.bool false))), 0, []⟩]) .ret) .skip)) (.seq (.seq (.reg false [⟨(some 35), .none, (.mov (.t 9)), 0, []⟩, ⟨(some 36), .none, (.mov (.t 0)), 1, []⟩, ⟨(some 37), .none, (.call 17 [(.t 36)]), 2, []⟩, ⟨(some 38), .none, (.call 19 [(.t 35), (.t 37)]), 3, []⟩, ⟨(some 39), .none, (.un .not (.t 38)), 4, []⟩]) (.cond (.t 39) (.seq (.reg false [⟨(some 6), .none, (.mov (.c (.bool false))), 0, []⟩]) .ret) .skip)) (.seq (.reg false [⟨(some 11), .none, (.mov (.c (.int .i64 1))), 0, []⟩]) (.seq (.reg false [⟨(some 40), .none, (.mov (.t 9)), 0, []⟩, ⟨(some 41), .none, (.mov (.t 11)), 1, []⟩, ⟨(some 42), .none, (.call 26 [(.t 40), (.t 41)]), 2, []⟩, ⟨(some 11), .none, (.mov (.t 42)), 3, []⟩]) (.seq (.seq (.reg false [⟨(some 43), .none, (.mov (.t 11)), 0, []⟩, ⟨(some 44), .none, (.bin .lss (.t 43) (.c (.int .i64 0))), 1, []⟩, ⟨(some 45), .none, (.mov (.t 44)), 2, []⟩, ⟨(some 46), (.some (45, false)), (.mov (.t 10)), 3, []⟩, ⟨(some 47), (.some (45, false)), (.mov (.t 8)), 4, []⟩, ⟨(some 48), (.some (45, false)), (.call 23 [(.t 46), (.t 47)]), 5, []⟩, ⟨(some 49), (.some (45, false)), (.un .not (.t 48)), 6, []⟩, ⟨(some 50), .none, (.pick (.t 45) (.c (.bool true)) (.t 49)), 7, []⟩]) (.cond (.t 50) (.seq (.reg false [⟨(some 6), .none, (.mov (.c (.bool false))), 0, []⟩]) .ret) .skip)) (.seq (.reg false [⟨(some 12), .none, (.mov (.c (.int .i64 1))), 0, []⟩]) (.seq (.reg false [⟨(some 51), .none, (.mov (.t 10)), 0, []⟩, ⟨(some 52), .none, (.mov (.t 12)), 1, []⟩, ⟨(some 53), .none, (.call 27 [(.t 51), (.t 52)]), 2, []⟩, ⟨(some 12), .none, (.mov (.t 53)), 3, []⟩]) (.seq (.reg false [⟨(some 13), .none, (.mov (.c (.int .i64 1))), 0, []⟩]) (.seq (.reg false [⟨(some 54), .none, (.mov (.t 10)), 0, []⟩, ⟨(some 55), .none, (.mov (.t 13)), 1, []⟩, ⟨(some 56), .none, (.call 28 [(.t 54), (.t 55)]), 2, []⟩, ⟨(some 13), .none, (.mov (.t 56)), 3, []⟩]) (.seq (.seq (.reg false [⟨(some 57), .none, (.mov (.t 13)), 0, []⟩, ⟨(some 58), .none, (.bin .lss (.t 57) (.c (.int .i64 0))), 1, []⟩]) (.cond (.t 58) (.seq (.reg false [⟨(some 6), .none, (.mov (.c (.bool false))), 0, []⟩]) .ret) .skip)) (.seq (.seq (.reg false [⟨(some 59), .none, (.mov (.t 13)), 0, []⟩, ⟨(some 60), .none, (.mov (.t 12)), 1, []⟩, ⟨(some 61), .none, (.bin .neq (.t 59) (.t 60)), 2, []⟩]) (.cond (.t 61) (.seq (.reg false [⟨(some 6), .none, (.mov (.c (.bool false))), 0, []⟩]) .ret) .skip)) (.seq (.reg false [⟨(some 62), .none, (.mov (.t 0)), 0, []⟩, ⟨(some 63), .none, (.call 17 [(.t 62)]), 1, []⟩, ⟨(some 64), .none, (.mov (.t 1)), 2, []⟩, ⟨(some 65), .none, (.mov (.t 2)), 3, []⟩, ⟨(some 66), .none, (.call 25 [(.t 63), (.t 64), (.t 65)]), 4, []⟩, ⟨(some 14), .none, (.mov (.t 66)), 5, []⟩]) (.seq (.seq (.reg false [⟨(some 67), .none, (.mov (.t 14)), 0, []⟩, ⟨(some 68), .none, (.mov (.t 8)), 1, []⟩, ⟨(some 69), .none, (.call 23 [(.t 67), (.t 68)]), 2, []⟩, ⟨(some 70), .none, (.un .not (.t 69)), 3, []⟩]) (.cond (.t 70) (.seq (.reg false [⟨(some 6), .none, (.mov (.c (.bool false))), 0, []⟩]) .ret) .skip)) (.seq (.reg false [⟨(some 13), .none, (.mov (.c (.int .i64 1))), 0, []⟩]) (.seq (.reg false [⟨(some 71), .none, (.mov (.t 10)), 0, []⟩, ⟨(some 72), .none, (.mov (.t 13)), 1, []⟩, ⟨(some 73), .none, (.call 28 [(.t 71), (.t 72)]), 2, []⟩, ⟨(some 13), .none, (.mov (.t 73)), 3, []⟩]) (.seq (.seq (.reg false [⟨(some 74), .none, (.mov (.t 13)), 0, []⟩, ⟨(some 75), .none, (.bin .lss (.t 74) (.c (.int .i64 0))), 1, []⟩]) (.cond (.t 75) (.seq (.reg false [⟨(some 6), .none, (.mov (.c (.bool false))), 0, []⟩]) .ret) .skip)) (.seq (.seq (.reg false [⟨(some 76), .none, (.mov (.t 13)), 0, []⟩, ⟨(some 77), .none, (.mov (.t 12)), 1, []⟩, ⟨(some 78), .none, (.bin .neq (.t 76) (.t 77)), 2, []⟩]) (.cond (.t 78) (.seq (.reg false [⟨(some 6), .none, (.mov (.c (.bool false))), 0, []⟩]) .ret) .skip)) (.seq (.reg false [⟨(some 6), .none, (.mov (.c (.bool true))), 0, []⟩]) .ret))))))))))))))))))))))))), [(.t 6)]⟩
theorem k5 : EE.fns 5 = some c5 := by kernel_rfl
def c6 : CF := ⟨79, (.seq (.reg false [⟨(some 6), .none, (.mov (.c (.bool false))), 0, []⟩]) (.seq (.reg false [⟨(some 7), .none, (.mov (.c (.int .i64 1048576))), 0, []⟩]) (.seq (.reg false [⟨(some 15), .none, (.mov (.t 0)), 0, []⟩, ⟨(some 16), .none, (.mov (.t 7)), 1, []⟩, ⟨(some 17), .none, (.call 15 [(.t 15), (.t 16)]), 2, []⟩, ⟨(some 7), .none, (.mov (.t 17)), 3, []⟩]) (.seq (.seq (.reg false [⟨(some 18), .none, (.mov (.t 7)), 0, []⟩, ⟨(some 19), .none, (.bin .lss (.t 18) (.c (.int .i64 0))), 1, []⟩]) (.cond (.t 19) (.seq (.reg false [⟨(some 6), .none, (.mov (.c (.bool true))), 0, []⟩]) .ret) .skip)) (.seq (.reg false [⟨(some 20), .none, (.mov (.t 0)), 0, []⟩, ⟨(some 21), .none, (.call 17 [(.t 20)]), 1, []⟩, ⟨(some 22), .none, (.mov (.t 1)), 2, []⟩, ⟨(some 23), .none, (.mov (.t 2)), 3, []⟩, ⟨(some 24), .none, (.call 29 [(.t 21), (.t 22), (.t 23)]), 4, []⟩, ⟨(some 8), .none, (.mov (.t 24)), 5, []⟩]) (.seq (.reg false [⟨(some 25), .none, (.mov (.t 0)), 0, []⟩, ⟨(some 26), .none, (.call 17 [(.t 25)]), 1, []⟩, ⟨(some 9), .none, (.mov (.t 26)), 2, []⟩]) (.seq (.reg false [⟨(some 27), .none, (.mov (.t 9)), 0, []⟩, ⟨(some 28), .none, (.mov (.t 1)), 1, []⟩, ⟨(some 29), .none, (.mov (.t 2)), 2, []⟩, ⟨(some 30), .none, (.call 30 [(.t 27), (.t 28), (.t 29)]), 3, []⟩, ⟨(some 10), .none, (.mov (.t 30)), 4, []⟩]) (.seq (.seq (.reg false [⟨(some 31), .none, (.mov (.t 10)), 0, []⟩, ⟨(some 32), .none, (.mov (.t 8)), 1, []⟩, ⟨(some 33), .none, (.call 23 [(.t 31), (.t 32)]), 2, []⟩, ⟨(some 34), .none, (.un .not (.t 33)), 3, []⟩]) (.cond (.t 34) (.seq (.reg false [⟨(some 6), .none, (.mov (.c (.bool false))), 0, []⟩]) .ret) .skip)) (.seq (.seq (.reg false [⟨(some 35), .none, (.mov (.t 9)), 0, []⟩, ⟨(some 36), .none, (.mov (.t 0)), 1, []⟩, ⟨(some 37), .none, (.call 17 [(.t 36)]), 2, []⟩, ⟨(some 38), .none, (.call 19 [(.t 35), (.t 37)]), 3, []⟩, ⟨(some 39), .none, (.un .not (.t 38)), 4, []⟩]) (.cond (.t 39) (.seq (.reg false [⟨(some 6), .none, (.mov (.c (.bool false))), 0, []⟩]) .ret) .skip)) (.seq (.reg false [⟨(some 11), .none, (.mov (.c (.int .i64 1))), 0, []⟩]) (.seq (.reg false [⟨(some 40), .none, (.mov (.t 9)), 0, []⟩, ⟨(some 41), .none, (.mov (.t 11)), 1, []⟩, ⟨(some 42), .none, (.call 26 [(.t 40), (.t 41)]), 2, []⟩, ⟨(some 11), .none, (.mov (.t 42)), 3, []⟩]) (.seq (.seq (.reg false [⟨(some 43), .none, (.mov (.t 11)), 0, []⟩, ⟨(some 44), .none, (.bin .lss (.t 43) (.c (.int .i64 0))), 1, []⟩, ⟨(some 45), .none, (.mov (.t 44)), 2, []⟩, ⟨(some 46), (.some (45, false)), (.mov (.t 10)), 3, []⟩, ⟨(some 47), (.some (45, false)), (.mov (.t 8)), 4, []⟩, ⟨(some 48), (.some (45, false)), (.call 23 [(.t 46), (.t 47)]), 5, []⟩, ⟨(some 49), (.some (45, false)), (.un .not (.t 48)), 6, []⟩, ⟨(some 50), .none, (.pick (.t 45) (.c (.bool true)) (.t 49)), 7, []⟩]) (.cond (.t 50) (.seq (.reg false [⟨(some 6), .none, (.mov (.c (.bool false))), 0, []⟩]) .ret) .skip)) (.seq (.reg false [⟨(some 12), .none, (.mov (.c (.int .i64 1))), 0, []⟩]) (.seq (.reg false [⟨(some 51), .none, (.mov (.t 10)), 0, []⟩, ⟨(some 52), .none, (.mov (.t 12)), 1, []⟩, ⟨(some 53), .none, (.call 27 [(.t 51), (.t 52)]), 2, []⟩, ⟨(some 12), .none, (.mov (.t 53)), 3, []⟩]) (.seq (.reg false [⟨(some 13), .none, (.mov (.c (.int .i64 1))), 0, []⟩]) (.seq (.reg false [⟨(some 54), .none, (.mov (.t 10)), 0, []⟩, ⟨(some 55), .none, (.mov (.t 13)), 1, []⟩, ⟨(some 56), .none, (.call 28 [(.t 54), (.t 55)]), 2, []⟩, ⟨(some 13), .none, (.mov (.t 56)), 3, []⟩]) (.seq (.seq (.reg false [⟨(some 57), .none, (.mov (.t 13)), 0, []⟩, ⟨(some 58), .none, (.bin .lss (.t 57) (.c (.int .i64 0))), 1, []⟩]) (.cond (.t 58) (.seq (.reg false [⟨(some 6), .none, (.mov (.c (.bool false))), 0, []⟩]) .ret) .skip)) (.seq (.seq (.reg false [⟨(some 59), .none, (.mov (.t 13)), 0, []⟩, ⟨(some 60), .none, (.mov (.t 12)), 1, []⟩, ⟨(some 61), .none, (.bin .neq (.t 59) (.t 60)), 2, []⟩]) (.cond (.t 61) (.seq (.reg false [⟨(some 6), .none, (.mov (.c (.bool false))), 0, []⟩]) .ret) .skip)) (.seq (.reg false [⟨(some 62), .none, (.mov (.t 0)), 0, []⟩, ⟨(some 63), .none, (.call 17 [(.t 62)]), 1, []⟩, ⟨(some 64), .none, (.mov (.t 1)), 2, []⟩, ⟨(some 65), .none, (.mov (.t 2)), 3, []⟩, ⟨(some 66), .none, (.call 30 [(.t 63), (.t 64), (.t 65)]), 4, []⟩, ⟨(some 14), .none, (.mov (.t 66)), 5, []⟩]) (.seq (.seq (.reg false [⟨(some 67), .none, (.mov (.t 14)), 0, []⟩, ⟨(some 68), .none, (.mov (.t 8)), 1, []⟩, ⟨(some 69), .none, (.call 23 [(.t 67), (.t 68)]), 2, []⟩, ⟨(some 70), .none, (.un .not (.t 69)), 3, []⟩]) (.cond (.t 70) (.seq (.reg false [⟨(some 6), .none, (.mov (.c (.bool false))), 0, []⟩]) .ret) .skip)) (.seq (.reg false [⟨(some 13), .none, (.mov (.c (.int .i64 1))), 0, []⟩]) (.seq (.reg false [⟨(some 71), .none, (.mov (.t 10)), 0, []⟩, ⟨(some 72), .none, (.mov (.t 13)), 1, []⟩, ⟨(some 73), .none, (.call 28 [(.t 71), (.t 72)]), 2, []⟩, ⟨(some 13), .none, (.mov (.t 73)), 3, []⟩]) (.seq (.seq (.reg false [⟨(some 74), .none, (.mov (.t 13)), 0, []⟩, ⟨(some 75), .none, (.bin .lss (.t 74) (.c (.int .i64 0))), 1, []⟩]) (.cond (.t 75) (.seq (.reg false [⟨(some 6), .none, (.mov (.c (.bool false))), 0, []⟩]) .ret) .skip)) (.seq (.seq (.reg false [⟨(some 76), .none, (.mov (.t 13)), 0, []⟩, ⟨(some 77), .none, (.mov (.t 12)), 1, []⟩, ⟨(some 78), .none, (.bin .neq (.t 76) (.t 77)), 2, []⟩]) (.cond (.t 78) (.seq (.reg false [⟨(some 6), .none, (.mov (.c (.bool false))), 0, []⟩]) .ret) .skip)) (.seq (.reg false [⟨(some 6), .none, (.mov (.c (.bool true))), 0, []⟩]) .ret))))))))))))))))))))))))), [(.t 6)]⟩
theorem k6 : EE.fns 6 = some c6 := by kernel_rfl
def c24 : CF := ⟨72, (.seq (.reg false [⟨(some 6), .none, (.mov (.c (.slice .none 0 0))), 0, []⟩]) (.seq (.reg false [⟨(some 12), .none, (.mkO 0 1 [(.int .i64 0)] []), 0, []⟩, ⟨(some 7), .none, (.mov (.t 12)), 1, []⟩]) (.seq (.seq (.reg false [⟨(some 13), .none, (.mov (.t 0)), 0, []⟩, ⟨(some 14), .none, (.call 16 [(.t 13)]), 1, []⟩, ⟨(some 15), .none, (.un .not (.t 14)), 2, []⟩, ⟨(some 16), .none, (.mov (.t 15)), 3, []⟩, ⟨(some 17), (.some (16, false)), (.mov (.t 1)), 4, []⟩, ⟨(some 18), (.some (16, false)), (.call 55 [(.t 17)]), 5, []⟩, ⟨(some 19), (.some (16, false)), (.un .not (.t 18)), 6, []⟩, ⟨(some 20), .none, (.pick (.t 16) (.c (.bool true)) (.t 19)), 7, []⟩, ⟨(some 21), .none, (.mov (.t 20)), 8, []⟩, ⟨(some 22), (.some (21, false)), (.mov (.t 2)), 9, []⟩, ⟨(some 23), (.some (21, false)), (.call 55 [(.t 22)]), 10, []⟩, ⟨(some 24), (.some (21, false)), (.un .not (.t 23)), 11, []⟩, ⟨(some 25), .none, (.pick (.t 21) (.c (.bool true)) (.t 24)), 12, []⟩]) (.cond (.t 25) (.seq (.reg false [⟨(some 26), .none, (.mov (.t 7)), 0, []⟩, ⟨(some 6), .none, (.mov (.t 26)), 1, []⟩]) .ret) .skip)) (.seq (.reg false [⟨(some 27), .none, (.mov (.t 0)), 0, []⟩, ⟨(some 28), .none, (.mov (.t 2)), 1, []⟩, ⟨(some 29), .none, (.call 63 [(.t 27), (.t 28), (.c (.int .i64 (-1)))]), 2, []⟩, ⟨(some 8), .none, (.mov (.t 29)), 3, []⟩]) (.seq (.seq (.reg false [⟨(some 30), .none, (.mov (.t 8)), 0, []⟩, ⟨(some 31), .none, (.mov (.t 1)), 1, []⟩, ⟨(some 32), .none, (.iadr 1 (.t 30) (.t 31)), 2, []⟩, ⟨(some 33), .none, (.load 1 false (.t 32)), 3, []⟩, ⟨(some 34), .none, (.bin .lss (.t 33) (.c (.int .i64 0))), 4, []⟩]) (.cond (.t 34) (.seq (.reg false [⟨(some 35), .none, (.mov (.t 7)), 0, []⟩, ⟨(some 6), .none, (.mov (.t 35)), 1, []⟩]) .ret) .skip)) (.seq (.reg false [⟨(some 36), .none, (.mov (.t 7)), 0, []⟩, ⟨(some 37), .none, (.mov (.t 1)), 1, []⟩, ⟨(some 38), .none, (.mkV 1 1 [(.int .i64 0)] [(0, (.t 37))]), 2, []⟩, ⟨(some 39), .none, (.app 1 8 (.t 36) (.t 38)), 3, []⟩, ⟨(some 7), .none, (.mov (.t 39)), 4, []⟩]) (.seq (.reg false [⟨(some 40), .none, (.mov (.t 1)), 0, []⟩, ⟨(some 9), .none, (.mov (.t 40)), 1, []⟩]) (.seq (.block 0 (.loop (.seq (.seq (.reg false [⟨(some 41), .none, (.mov (.t 9)), 0, []⟩, ⟨(some 42), .none, (.mov (.t 2)), 1, []⟩, ⟨(some 43), .none, (.bin .neq (.t 41) (.t 42)), 2, []⟩]) (.cond (.t 43) .skip (.exit 0))) (.block 1 (.seq (.reg false [⟨(some 10), .none, (.mov (.c (.int .i64 (-1)))), 0, []⟩]) (.seq (.seq (.reg false [⟨(some 11), .none, (.mov (.c (.int .i64 7))), 0, []⟩]) (.block 2 (.loop (.seq (.seq (.reg false [⟨(some 44), .none, (.mov (.t 11)), 0, []⟩, ⟨(some 45), .none, (.bin .geq (.t 44) (.c (.int .i64 0))), 1, []⟩]) (.cond (.t 45) .skip (.exit 2))) (.seq (.block 3 (.seq (.reg true [⟨(some 48), .none, (.mov (.t 8)), 0, []⟩, ⟨(some 49), .none, (.mov (.t 11)), 1, []⟩, ⟨(some 50), .none, (.iadr 1 (.t 48) (.t 49)), 2, [0, 1]⟩, ⟨(some 51), .none, (.load 1 false (.t 50)), 3, [2, 0, 1]⟩, ⟨(some 52), .none, (.mov (.t 8)), 4, []⟩, ⟨(some 53), .none, (.mov (.t 9)), 5, []⟩, ⟨(some 54), .none, (.iadr 1 (.t 52) (.t 53)), 6, [4, 5]⟩, ⟨(some 55), .none, (.load 1 false (.t 54)), 7, [6, 4, 5]⟩, ⟨(some 56), .none, (.bin .sub (.t 55) (.c (.int .i64 1))), 8, [7, 6, 4, 5]⟩, ⟨(some 57), .none, (.bin .eql (.t 51) (.t 56)), 9, [3, 2, 0, 1, 8, 7, 6, 4, 5]⟩, ⟨(some 58), .none, (.mov (.t 57)), 10, [9, 3, 2, 0, 1, 8, 7, 6, 4, 5]⟩, ⟨(some 59), (.some (58, true)), (.mov (.t 0)), 11, [10, 9, 3, 2, 0, 1, 8, 7, 6, 4, 5]⟩, ⟨(some 60), (.some (58, true)), (.mov (.t 9)), 12, [10, 9, 3, 2, 0, 1, 8, 7, 6, 4, 5]⟩, ⟨(some 61), (.some (58, true)), (.mov (.t 11)), 13, [10, 9, 3, 2, 0, 1, 8, 7, 6, 4, 5]⟩, ⟨(some 62), (.some (58, true)), (.build [(.int .i64 0), (.int .i64 0)] [(0, (1, (.t 60))), (1, (1, (.t 61)))]), 14, [12, 10, 9, 3, 2, 0, 1, 8, 7, 6, 4, 5, 13]⟩, ⟨(some 63), (.some (58, true)), (.call 56 [(.t 59), (.t 62)]), 15, [11, 10, 9, 3, 2, 0, 1, 8, 7, 6, 4, 5, 14, 12, 13]⟩, ⟨(some 64), .none, (.pick (.t 58) (.t 63) (.c (.bool false))), 16, [10, 9, 3, 2, 0, 1, 8, 7, 6, 4, 5, 15, 11, 14, 12, 13]⟩]) (.cond (.t 64) (.reg false [⟨(some 65), .none, (.mov (.t 11)), 0, []⟩, ⟨(some 10), .none, (.mov (.t 65)), 1, []⟩]) .skip))) (.reg false [⟨(some 46), .none, (.mov (.t 11)), 0, []⟩, ⟨(some 47), .none, (.bin .sub (.t 46) (.c (.int .i64 1))), 1, []⟩, ⟨(some 11), .none, (.mov (.t 47)), 2, []⟩])))))) (.seq (.reg false [⟨(some 66), .none, (.mov (.t 7)), 0, []⟩, ⟨(some 67), .none, (.mov (.t 10)), 1, []⟩, ⟨(some 68), .none, (.mkV 1 1 [(.int .i64 0)] [(0, (.t 67))]), 2, []⟩, ⟨(some 69), .none, (.app 1 8 (.t 66) (.t 68)), 3, []⟩, ⟨(some 7), .none, (.mov (.t 69)), 4, []⟩]) (.reg false [⟨(some 70), .none, (.mov (.t 10)), 0, []⟩, ⟨(some 9), .none, (.mov (.t 70)), 1, []⟩])))))))) (.seq (.reg false [⟨(some 71), .none, (.mov (.t 7)), 0, []⟩, ⟨(some 6), .none, (.mov (.t 71)), 1, []⟩]) .ret))))))))), [(.t 6)]⟩
theorem k24 : EE.fns 24 = some c24 := by kernel_rfl
def c25 : CF := ⟨69, (.seq (.reg false [⟨(some 6), .none, (.mov (.c (.slice .none 0 0))), 0, []⟩]) (.seq (.reg false [⟨(some 11), .none, (.mkO 0 1 [(.int .i64 0)] []), 0, []⟩, ⟨(some 7), .none, (.mov (.t 11)), 1, []⟩]) (.seq (.seq (.reg false [⟨(some 12), .none, (.mov (.t 0)), 0, []⟩, ⟨(some 13), .none, (.call 18 [(.t 12)]), 1, []⟩, ⟨(some 14), .none, (.un .not (.t 13)), 2, []⟩, ⟨(some 15), .none, (.mov (.t 14)), 3, []⟩, ⟨(some 16), (.some (15, false)), (.mov (.t 1)), 4, []⟩, ⟨(some 17), (.some (15, false)), (.call 58 [(.t 16)]), 5, []⟩, ⟨(some 18), (.some (15, false)), (.un .not (.t 17)), 6, []⟩, ⟨(some 19), .none, (.pick (.t 15) (.c (.bool true)) (.t 18)), 7, []⟩, ⟨(some 20), .none, (.mov (.t 19)), 8, []⟩, ⟨(some 21), (.some (20, false)), (.mov (.t 2)), 9, []⟩, ⟨(some 22), (.some (20, false)), (.call 58 [(.t 21)]), 10, []⟩, ⟨(some 23), (.some (20, false)), (.un .not (.t 22)), 11, []⟩, ⟨(some 24), .none, (.pick (.t 20) (.c (.bool true)) (.t 23)), 12, []⟩, ⟨(some 25), .none, (.mov (.t 24)), 13, []⟩, ⟨(some 26), (.some (25, false)), (.mov (.t 0)), 14, []⟩, ⟨(some 27), (.some (25, false)), (.mov (.t 1)), 15, []⟩, ⟨(some 28), (.some (25, false)), (.mov (.t 2)), 16, []⟩, ⟨(some 29), (.some (25, false)), (.call 64 [(.t 26), (.t 27), (.t 28)]), 17, []⟩, ⟨(some 30), (.some (25, false)), (.bin .lss (.t 29) (.c (.int .i64 0))), 18, []⟩, ⟨(some 31), .none, (.pick (.t 25) (.c (.bool true)) (.t 30)), 19, []⟩]) (.cond (.t 31) (.seq (.reg false [⟨(some 32), .none, (.mov (.t 7)), 0, []⟩, ⟨(some 6), .none, (.mov (.t 32)), 1, []⟩]) .ret) .skip)) (.seq (.reg false [⟨(some 33), .none, (.mov (.t 7)), 0, []⟩, ⟨(some 34), .none, (.mov (.t 1)), 1, []⟩, ⟨(some 35), .none, (.mkV 1 1 [(.int .i64 0)] [(0, (.t 34))]), 2, []⟩, ⟨(some 36), .none, (.app 1 8 (.t 33) (.t 35)), 3, []⟩, ⟨(some 7), .none, (.mov (.t 36)), 4, []⟩]) (.seq (.seq (.reg false [⟨(some 37), .none, (.mov (.t 1)), 0, []⟩, ⟨(some 8), .none, (.mov (.t 37)), 1, []⟩]) (.block 0 (.loop (.seq (.seq (.reg false [⟨(some 38), .none, (.mov (.t 8)), 0, []⟩, ⟨(some 39), .none, (.mov (.t 2)), 1, []⟩, ⟨(some 40), .none, (.bin .neq (.t 38) (.t 39)), 2, []⟩]) (.cond (.t 40) .skip (.exit 0))) (.block 1 (.seq (.reg false [⟨(some 41), .none, (.mov (.t 0)), 0, []⟩, ⟨(some 42), .none, (.mov (.t 8)), 1, []⟩, ⟨(some 43), .none, (.mov (.t 2)), 2, []⟩, ⟨(some 44), .none, (.call 64 [(.t 41), (.t 42), (.t 43)]), 3, []⟩, ⟨(some 9), .none, (.mov (.t 44)), 4, []⟩]) (.seq (.seq (.reg false [⟨(some 45), .none, (.mov (.c (.int .i64 0))), 0, []⟩]) (.block 2 (.loop (.seq (.reg false [⟨(some 46), .none, (.bin .lss (.t 45) (.c (.int .i64 8))), 0, []⟩]) (.seq (.cond (.t 46) .skip (.exit 2)) (.seq (.block 3 (.seq (.reg false [⟨(some 47), .none, (.mov (.t 45)), 0, []⟩, ⟨(some 10), .none, (.mov (.t 47)), 1, []⟩]) (.seq (.reg false [⟨(some 48), .none, (.mov (.t 0)), 0, []⟩, ⟨(some 49), .none, (.mov (.t 8)), 1, []⟩, ⟨(some 50), .none, (.mov (.t 10)), 2, []⟩, ⟨(some 51), .none, (.build [(.int .i64 0), (.int .i64 0)] [(0, (1, (.t 49))), (1, (1, (.t 50)))]), 3, []⟩, ⟨(some 52), .none, (.call 59 [(.t 48), (.t 51)]), 4, []⟩, ⟨(some 53), .none, (.mov (.t 52)), 5, []⟩, ⟨(some 54), (.some (53, true)), (.mov (.t 0)), 6, []⟩, ⟨(some 55), (.some (53, true)), (.mov (.t 10)), 7, []⟩, ⟨(some 56), (.some (53, true)), (.mov (.t 2)), 8, []⟩, ⟨(some 57), (.some (53, true)), (.call 64 [(.t 54), (.t 55), (.t 56)]), 9, []⟩, ⟨(some 58), (.some (53, true)), (.mov (.t 9)), 10, []⟩, ⟨(some 59), (.some (53, true)), (.bin .sub (.t 58) (.c (.int .i64 1))), 11, []⟩, ⟨(some 60), (.some (53, true)), (.bin .eql (.t 57) (.t 59)), 12, []⟩, ⟨(some 61), .none, (.pick (.t 53) (.t 60) (.c (.bool false))), 13, []⟩]) (.cond (.t 61) (.seq (.reg false [⟨(some 62), .none, (.mov (.t 10)), 0, []⟩, ⟨(some 8), .none, (.mov (.t 62)), 1, []⟩]) (.exit 2)) .skip)))) (.reg false [⟨(some 63), .none, (.bin .add (.t 45) (.c (.int .i64 1))), 0, []⟩, ⟨(some 45), .none, (.mov (.t 63)), 1, []⟩]))))))) (.reg false [⟨(some 64), .none, (.mov (.t 7)), 0, []⟩, ⟨(some 65), .none, (.mov (.t 8)), 1, []⟩, ⟨(some 66), .none, (.mkV 1 1 [(.int .i64 0)] [(0, (.t 65))]), 2, []⟩, ⟨(some 67), .none, (.app 1 8 (.t 64) (.t 66)), 3, []⟩, ⟨(some 7), .none, (.mov (.t 67)), 4, []⟩])))))))) (.seq (.reg false [⟨(some 68), .none, (.mov (.t 7)), 0, []⟩, ⟨(some 6), .none, (.mov (.t 68)), 1, []⟩]) .ret)))))), [(.t 6)]⟩
theorem k25 : EE.fns 25 = some c25 := by kernel_rfl
def c27 : CF := ⟨19, (.seq (.reg false [⟨(some 4), .none, (.mov (.c (.int .i64 0))), 0, []⟩]) (.seq (.seq (.reg false [⟨(some 5), .none, (.mov (.c (.int .i64 0))), 0, []⟩]) (.block 0 (.loop (.seq (.seq (.reg false [⟨(some 6), .none, (.mov (.t 5)), 0, []⟩, ⟨(some 7), .none, (.mov (.t 0)), 1, []⟩, ⟨(some 8), .none, (.lenS (.t 7)), 2, []⟩, ⟨(some 9), .none, (.bin .lss (.t 6) (.t 8)), 3, []⟩]) (.cond (.t 9) .skip (.exit 0))) (.seq (.block 1 (.seq (.reg false [⟨(some 12), .none, (.mov (.t 0)), 0, []⟩, ⟨(some 13), .none, (.mov (.t 5)), 1, []⟩, ⟨(some 14), .none, (.mov (.t 1)), 2, []⟩, ⟨(some 15), .none, (.iadr 1 (.t 12) (.t 13)), 3, []⟩, ⟨.none, .none, (.store 1 (.t 15) (.t 14)), 4, []⟩]) (.reg false [⟨(some 16), .none, (.mov (.t 1)), 0, []⟩, ⟨(some 17), .none, (.bin .add (.t 16) (.c (.int .i64 1))), 1, []⟩, ⟨(some 1), .none, (.mov (.t 17)), 2, []⟩]))) (.reg false [⟨(some 10), .none, (.mov (.t 5)), 0, []⟩, ⟨(some 11), .none, (.bin .add (.t 10) (.c (.int .i64 1))), 1, []⟩, ⟨(some 5), .none, (.mov (.t 11)), 2, []⟩])))))) (.seq (.reg false [⟨(some 18), .none, (.mov (.t 1)), 0, []⟩, ⟨(some 4), .none, (.mov (.t 18)), 1, []⟩]) .ret))), [(.t 4)]⟩
theorem k27 : EE.fns 27 = some c27 := by kernel_rfl
def c28 : CF := ⟨21, (.seq (.reg false [⟨(some 4), .none, (.mov (.c (.int .i64 0))), 0, []⟩]) (.seq (.seq (.reg false [⟨(some 5), .none, (.mov (.c (.int .i64 0))), 0, []⟩]) (.block 0 (.loop (.seq (.seq (.reg false [⟨(some 6), .none, (.mov (.t 5)), 0, []⟩, ⟨(some 7), .none, (.mov (.t 0)), 1, []⟩, ⟨(some 8), .none, (.lenS (.t 7)), 2, []⟩, ⟨(some 9), .none, (.bin .lss (.t 6) (.t 8)), 3, []⟩]) (.cond (.t 9) .skip (.exit 0))) (.seq (.block 1 (.seq (.seq (.reg false [⟨(some 12), .none, (.mov (.t 0)), 0, []⟩, ⟨(some 13), .none, (.mov (.t 5)), 1, []⟩, ⟨(some 14), .none, (.iadr 1 (.t 12) (.t 13)), 2, []⟩, ⟨(some 15), .none, (.load 1 false (.t 14)), 3, []⟩, ⟨(some 16), .none, (.mov (.t 1)), 4, []⟩, ⟨(some 17), .none, (.bin .neq (.t 15) (.t 16)), 5, []⟩]) (.cond (.t 17) (.seq (.reg false [⟨(some 4), .none, (.mov (.c (.int .i64 (-1)))), 0, []⟩]) .ret) .skip)) (.reg false [⟨(some 18), .none, (.mov (.t 1)), 0, []⟩, ⟨(some 19), .none, (.bin .add (.t 18) (.c (.int .i64 1))), 1, []⟩, ⟨(some 1), .none, (.mov (.t 19)), 2, []⟩]))) (.reg false [⟨(some 10), .none, (.mov (.t 5)), 0, []⟩, ⟨(some 11), .none, (.bin .add (.t 10) (.c (.int .i64 1))), 1, []⟩, ⟨(some 5), .none, (.mov (.t 11)), 2, []⟩])))))) (.seq (.reg false [⟨(some 20), .none, (.mov (.t 1)), 0, []⟩, ⟨(some 4), .none, (.mov (.t 20)), 1, []⟩]) .ret))), [(.t 4)]⟩
theorem k28 : EE.fns 28 = some c28 := by kernel_rfl
def c45 : CF := ⟨27, (.seq (.reg false [⟨(some 4), .none, (.mov (.c (.int .i64 0))), 0, []⟩]) (.seq (.seq (.reg false [⟨(some 5), .none, (.mov (.c (.int .i64 0))), 0, []⟩]) (.block 0 (.loop (.seq (.seq (.reg false [⟨(some 6), .none, (.mov (.t 5)), 0, []⟩, ⟨(some 7), .none, (.mov (.t 0)), 1, []⟩, ⟨(some 8), .none, (.lenS (.t 7)), 2, []⟩, ⟨(some 9), .none, (.bin .lss (.t 6) (.t 8)), 3, []⟩]) (.cond (.t 9) .skip (.exit 0))) (.seq (.block 1 (.seq (.reg false [⟨(some 12), .none, (.mov (.t 0)), 0, []⟩, ⟨(some 13), .none, (.mov (.t 5)), 1, []⟩, ⟨(some 14), .none, (.iadr 2 (.t 12) (.t 13)), 2, []⟩, ⟨(some 15), .none, (.fadr 0 (.t 14)), 3, []⟩, ⟨(some 16), .none, (.load 1 false (.t 15)), 4, []⟩, ⟨(some 17), .none, (.mov (.t 1)), 5, []⟩, ⟨(some 18), .none, (.call 27 [(.t 16), (.t 17)]), 6, []⟩, ⟨(some 1), .none, (.mov (.t 18)), 7, []⟩]) (.reg false [⟨(some 19), .none, (.mov (.t 0)), 0, []⟩, ⟨(some 20), .none, (.mov (.t 5)), 1, []⟩, ⟨(some 21), .none, (.iadr 2 (.t 19) (.t 20)), 2, []⟩, ⟨(some 22), .none, (.fadr 1 (.t 21)), 3, []⟩, ⟨(some 23), .none, (.load 1 false (.t 22)), 4, []⟩, ⟨(some 24), .none, (.mov (.t 1)), 5, []⟩, ⟨(some 25), .none, (.call 27 [(.t 23), (.t 24)]), 6, []⟩, ⟨(some 1), .none, (.mov (.t 25)), 7, []⟩]))) (.reg false [⟨(some 10), .none, (.mov (.t 5)), 0, []⟩, ⟨(some 11), .none, (.bin .add (.t 10) (.c (.int .i64 1))), 1, []⟩, ⟨(some 5), .none, (.mov (.t 11)), 2, []⟩])))))) (.seq (.reg false [⟨(some 26), .none, (.mov (.t 1)), 0, []⟩, ⟨(some 4), .none, (.mov (.t 26)), 1, []⟩]) .ret))), [(.t 4)]⟩
theorem k45 : EE.fns 45 = some c45 := by kernel_rfl
end Go.Proofs.Ytdplmjlbkaipiaa.Ev

/- Marks in rows of numbers, and whether they are still there. -/
namespace Go.Proofs.Ytdplmjlbkaipiaa.Ev
set_option linter.all false
open Go
set_option maxRecDepth 4000

def marks (k : Int) (n : Nat) : List Int := (List.range n).map fun (j : Nat) => k + (j : Int)
theorem marks_len (k : Int) (n : Nat) : (marks k n).length = n := by simp [marks]
theorem marks_get {k : Int} {n i : Nat} (h : i < n) : (marks k n)[i]? = some (k + i) := by simp [marks, h]
theorem marks_succ (k : Int) (n : Nat) : marks k (n + 1) = marks k n ++ [k + n] := by simp [marks, List.range_succ]

theorem callT_now {E : Env} {m : Md} {f : Nat} {vs : List Value} {P : Value → Hp → Prop} {s : St} {d : Option Nat} {ts : List Tk} {Q : Ex → St → Prop} (h : Fun E m f vs s.H P)
    (hq : ∀ r H', P r H' → go E m ts { s with H := H', ρ := upd s.ρ d (.val r) } Q) : callT E m false f (some vs) s d ts Q := by
  unfold callT opt
  exact h.mono hq

theorem f27 {m : Md} {H : Hp} {v : Value} {l : List Int} {k : Int} (hl : SlI H v l) (hk : 0 ≤ k) (hk2 : k + l.length < 9223372036854775807) (hw : ∀ id ∈ idsOf v, m.wr id = true) :
    Fun EE m 27 [v, .int .i64 k] H fun r H' => r = .int .i64 (k + l.length) ∧ SlI H' v (marks k l.length) ∧ (∀ j, j ∉ idsOf v → H'[j]? = H[j]?) ∧ H'.length = H.length := by
  refine fun_f rfl rfl k27 (by simp [c27]) ?_
  have hroom := hl.room
  simp only [go_sem, ↓reduceIte, Nat.reduceEqDiff, reduceCtorEq, Nat.reduceAdd, Nat.reduceLeDiff, Nat.reduceMul, c27]
  refine go_for l.length (fun i s => s.ρ 0 = .val v ∧ s.ρ 1 = .val (.int .i64 (k + i)) ∧ s.ρ 5 = .val (.int .i64 i) ∧ SlI s.H v (marks k i ++ l.drop i) ∧ (∀ j, j ∉ idsOf v → s.H[j]? = H[j]?) ∧ s.H.length = H.length)
    (fun s => s.ρ 1 = .val (.int .i64 (k + l.length)) ∧ SlI s.H v (marks k l.length) ∧ (∀ j, j ∉ idsOf v → s.H[j]? = H[j]?) ∧ s.H.length = H.length) (by simpa [upd, ini, marks] using hl) ?_ ?_
  · rintro i s hi ⟨h0, h1, h5, hs, hf, hlen⟩
    have hll : (marks k i ++ l.drop i).length = l.length := by rw [List.length_append, marks_len, List.length_drop]; omega
    simp only [go_sem, ↓reduceIte, Nat.reduceEqDiff, reduceCtorEq, Nat.reduceAdd, Nat.reduceLeDiff, Nat.reduceMul, h0, h1, h5, hs.len, hll]
    refine brT.intro (fun h3 => ?_) (fun h3 => ?_) <;> simp only [go_sem, ↓reduceIte, Nat.reduceEqDiff, reduceCtorEq, Nat.reduceAdd, Nat.reduceLeDiff, Nat.reduceMul, h0, h1, h5]
    · have h4 : i < l.length := by simpa using h3
      obtain ⟨id, p, o, ho, hp, hid, hia, hst⟩ := hs.store (i := i) (by omega)
      have hwid := hw id (by rw [hid]; simp)
      simp only [go_sem, ↓reduceIte, Nat.reduceEqDiff, reduceCtorEq, Nat.reduceAdd, Nat.reduceLeDiff, Nat.reduceMul, h0, h1, h5, hia, ho, hp, hwid, wrap64 ((i : Int) + 1) (by omega) (by omega), wrap64 (k + (i : Int) + 1) (by omega) (by omega)]
      refine ⟨h4, by simp [Int.add_assoc], by simp, ?_, fun j hj => ?_, by simp [hlen]⟩
      · have := hst (k + i) [.int .i64 (k + i)] rfl rfl
        rw [List.set_append_right _ _ (by rw [marks_len]; omega), marks_len, Nat.sub_self, List.drop_eq_getElem_cons h4, List.set_cons_zero] at this
        rw [marks_succ, List.append_assoc, List.singleton_append]
        exact this
      · rw [List.getElem?_set_ne, hf j hj]
        rw [hid] at hj
        simp at hj
        omega
    · have h4 : ¬ i < l.length := by simpa using h3
      have hil : i = l.length := by omega
      subst hil
      rw [List.drop_length, List.append_nil] at hs
      exact ⟨rfl, hs, hf, hlen⟩
  · rintro s ⟨h1, hs, hf, hlen⟩
    simp only [go_sem, ↓reduceIte, Nat.reduceEqDiff, reduceCtorEq, Nat.reduceAdd, Nat.reduceLeDiff, Nat.reduceMul, h1]
    exact ⟨hs, hf, hlen⟩

theorem f28 {H : Hp} {v : Value} {n : Nat} {k : Int} (hl : SlI H v (marks k n)) (hk : 0 ≤ k) (hk2 : k + n < 9223372036854775807) : Scal EE 28 [v, .int .i64 k] H (.int .i64 (k + n)) := by
  refine scal_ok rfl rfl k28 (by simp [c28]) rfl fun m hw => ?_
  simp only [go_sem, ↓reduceIte, Nat.reduceEqDiff, reduceCtorEq, Nat.reduceAdd, Nat.reduceLeDiff, Nat.reduceMul, c28]
  refine go_for n (fun i s => s.H = H ∧ s.ρ 0 = .val v ∧ s.ρ 1 = .val (.int .i64 (k + i)) ∧ s.ρ 5 = .val (.int .i64 i)) (fun s => s.H = H ∧ s.ρ 1 = .val (.int .i64 (k + n))) (by simp [upd, ini]) ?_ ?_
  · rintro i s hi ⟨hH, h0, h1, h5⟩
    simp only [go_sem, ↓reduceIte, Nat.reduceEqDiff, reduceCtorEq, Nat.reduceAdd, Nat.reduceLeDiff, Nat.reduceMul, h0, h1, h5, hl.len, marks_len]
    refine brT.intro (fun h3 => ?_) (fun h3 => ?_) <;> simp only [go_sem, ↓reduceIte, Nat.reduceEqDiff, reduceCtorEq, Nat.reduceAdd, Nat.reduceLeDiff, Nat.reduceMul, h0, h1, h5]
    · have h4 : i < n := by simpa using h3
      obtain ⟨id, p, o, ho, hr, hia⟩ := hl.int (marks_get h4)
      simp only [go_sem, ↓reduceIte, Nat.reduceEqDiff, reduceCtorEq, Nat.reduceAdd, Nat.reduceLeDiff, Nat.reduceMul, h0, h1, h5, hia, hH, ho, hr, wrap64 ((i : Int) + 1) (by omega) (by omega), wrap64 (k + (i : Int) + 1) (by omega) (by omega)]
      exact ⟨h4, by simp [Int.add_assoc], by simp⟩
    · have h4 : ¬ i < n := by simpa using h3
      have hil : i = n := by omega
      subst hil
      exact ⟨hH, rfl⟩
  · rintro s ⟨hH, h1⟩
    simp only [go_sem, ↓reduceIte, Nat.reduceEqDiff, reduceCtorEq, Nat.reduceAdd, Nat.reduceLeDiff, Nat.reduceMul, hH, h1]
end Go.Proofs.Ytdplmjlbkaipiaa.Ev

/- The program's way to count steps. -/
namespace Go.Proofs.Ytdplmjlbkaipiaa.Ev
set_option linter.all false
open Go
set_option maxRecDepth 4000

/-- One number more. -/
theorem Sl.one {m : Md} {N : Nat} {H : Hp} {v : Value} {l : List Int} (a : Int) (h : SlI H v l) (ho : OwnS N v) (hN : N ≤ H.length) (hw : ∀ id, N ≤ id → m.wr id = true) (hb : l.length < 1048576) :
    ∃ v' H', (∀ (s : St) (x y : X), s.H = H → exv s.ρ x = some v → ex s.ρ y = .vs 1 [.int .i64 a] → appK m s 1 8 x y = some (.val v', { s with H := H' })) ∧ SlI H' v' (l ++ [a]) ∧ OwnS N v' ∧
      (∀ j, j < H.length → j ∉ idsOf v → H'[j]? = H[j]?) ∧ H.length ≤ H'.length ∧ (∀ j ∈ idsOf v', j ∈ idsOf v ∨ H.length ≤ j) ∧ ∀ H0 : Hp, H0.length ≤ N → H0 <+: H → H0 <+: H' := by
  obtain ⟨v', H', h1, h2⟩ := h.app (m := m) (n := 1) (bytes := 8) (l2 := [a]) (cs := [.int .i64 a]) ho hN hw (fun _ => rfl) (by simp) rfl (fun i b hi => by
    cases i with
    | zero => simp at hi; subst hi; rfl
    | succ i => simp at hi) (by unfold Ev.room; simp; omega) (by unfold Ev.room; simp; omega)
  exact ⟨v', H', fun s x y hH hx hy => h1 s x y hH hx (by rw [hy]; rfl), h2⟩

end Go.Proofs.Ytdplmjlbkaipiaa.Ev

/- The reference's way to count steps: all realms at once. -/
namespace Go.Proofs.Ytdplmjlbkaipiaa.Ev
set_option linter.all false
open Go
set_option maxRecDepth 4000

/-- Hops that stay clear of a realm. -/
def Pout (l : List Hop) (out : Int) (h : Hop) : Prop := h ∈ l ∧ h.1 ≠ out ∧ h.2 ≠ out
section
variable {l : List Hop} {to out : Int} {r i : Nat}

end
end Go.Proofs.Ytdplmjlbkaipiaa.Ev

/- The reference's way to count steps: its walk. -/
namespace Go.Proofs.Ytdplmjlbkaipiaa.Ev
set_option linter.all false
open Go
set_option maxRecDepth 4000

end Go.Proofs.Ytdplmjlbkaipiaa.Ev

/- HopsOk, both of them, and the law. -/
namespace Go.Proofs.Ytdplmjlbkaipiaa.Ev
set_option linter.all false
open Go
set_option maxRecDepth 4000

end Go.Proofs.Ytdplmjlbkaipiaa.Ev

/- A way from realm to realm: plain. -/
namespace Go.Proofs.Ytdplmjlbkaipiaa.Ev
set_option linter.all false
open Go

/-- The least realm from some one on that is next; -1 if there is none. -/
def LeastFrom (Q : Int → Prop) (a : Nat) (v : Int) : Prop := (v = -1 ∧ ∀ y : Nat, a ≤ y → y < 8 → ¬ Q y) ∨ ∃ z : Nat, v = z ∧ a ≤ z ∧ z < 8 ∧ Q z ∧ ∀ y : Nat, a ≤ y → y < z → ¬ Q y

theorem LeastFrom.start (Q : Int → Prop) : LeastFrom Q 8 (-1) := .inl ⟨rfl, fun y h1 h2 => by omega⟩
theorem LeastFrom.yes {Q : Int → Prop} {a : Nat} (ha : a < 8) (h : Q a) : LeastFrom Q a a := .inr ⟨a, rfl, Nat.le_refl _, ha, h, fun y h1 h2 => by omega⟩
theorem LeastFrom.no {Q : Int → Prop} {a : Nat} {v : Int} (h : LeastFrom Q (a + 1) v) (hq : ¬ Q a) : LeastFrom Q a v := by
  rcases h with ⟨rfl, h⟩ | ⟨z, rfl, h1, h2, h3, h4⟩
  · refine .inl ⟨rfl, fun y h1 h2 => ?_⟩
    by_cases e : y = a
    · subst e; exact hq
    · exact h y (by omega) h2
  · refine .inr ⟨z, rfl, by omega, h2, h3, fun y h5 h6 => ?_⟩
    by_cases e : y = a
    · subst e; exact hq
    · exact h4 y (by omega) h6
end Go.Proofs.Ytdplmjlbkaipiaa.Ev

/- The reference's Route: its walk. -/
namespace Go.Proofs.Ytdplmjlbkaipiaa.Ev
set_option linter.all false
open Go
set_option maxRecDepth 4000

theorem own_notin {x N : Nat} {v : Value} (h : OwnS N v) (hx : x < N) : x ∉ idsOf v := by
  rcases h with rfl | ⟨id, e, ln, cap, rfl, hid⟩
  · simp [idsOf]
  · simp [idsOf]; omega

/-- A slice whose row isn't the one that grows. -/
theorem Sl.aside {α : Type} {R : α → List Value → Prop} {esz : Nat} {H H' : Hp} {v w : Value} {l : List α} (h : Sl R esz H v l) (hd : ∀ j ∈ idsOf v, j ∉ idsOf w) (hf : ∀ j, j < H.length → j ∉ idsOf w → H'[j]? = H[j]?) : Sl R esz H' v l := by
  have hid := h.ids
  refine h.frame (fun _ _ _ h => h) fun id off e len cap hv => ?_
  subst hv
  exact hf id (hid id (by simp [idsOf])) (hd id (by simp [idsOf]))

end Go.Proofs.Ytdplmjlbkaipiaa.Ev

/- The program's own Route: its walk. -/
namespace Go.Proofs.Ytdplmjlbkaipiaa.Ev
set_option linter.all false
open Go
set_option maxRecDepth 4000

end Go.Proofs.Ytdplmjlbkaipiaa.Ev

/- The law Route. -/
namespace Go.Proofs.Ytdplmjlbkaipiaa.Ev
set_option linter.all false
open Go
set_option maxRecDepth 4000

theorem Sl.blank {α : Type} {R : α → List Value → Prop} {esz : Nat} {H : Hp} {v : Value} {l : List α} (h : Sl R esz H v l) : Sl (fun _ _ => True) esz H v l := h.frame (fun _ _ _ _ => trivial) fun _ _ _ _ _ _ => rfl
theorem Sl.keep {α : Type} {R : α → List Value → Prop} {esz : Nat} {H H' : Hp} {v w : Value} {l : List α} (h : Sl R esz H v l) (hd : ∀ j ∈ idsOf v, j ∉ idsOf w) (hf : ∀ j, j ∉ idsOf w → H'[j]? = H[j]?) : Sl R esz H' v l := h.aside hd fun j _ hj => hf j hj
theorem own_ge {N : Nat} {v : Value} (h : OwnS N v) : ∀ j ∈ idsOf v, N ≤ j := fun j hj => by
  rcases Nat.lt_or_ge j N with h2 | h2
  · exact absurd hj (own_notin h h2)
  · exact h2

end Go.Proofs.Ytdplmjlbkaipiaa.Ev

/- Realms that can be reached: plain, and the program's way to find them. -/
namespace Go.Proofs.Ytdplmjlbkaipiaa.Ev
set_option linter.all false
open Go
set_option maxRecDepth 4000

theorem nodup_le : ∀ (n : Nat) (l : List Int), l.Nodup → (∀ x ∈ l, 0 ≤ x ∧ x < (n : Int)) → l.length ≤ n
  | 0, l, _, h => by
    cases l with
    | nil => simp
    | cons a l => have := h a (by simp); omega
  | n + 1, l, hn, h => by
    by_cases hm : (n : Int) ∈ l
    · have := nodup_le n (l.erase n) (hn.erase _) (fun x hx => by
        have h1 := (hn.mem_erase_iff).1 hx
        have h2 := h x h1.2
        have h3 := h1.1
        omega)
      rw [List.length_erase_of_mem hm] at this
      omega
    · have := nodup_le n l hn (fun x hx => by
        have h2 := h x hx
        have h3 : x ≠ (n : Int) := fun e => hm (e ▸ hx)
        omega)
      omega

theorem inR_iff {x : Int} : inR x = true ↔ 0 ≤ x ∧ x < 8 := by
  simp [inR]

/-- What holds of the realms found so far, of which the first ones are done. -/
structure Gi (l : List Hop) (wo fr : Int) (i : Nat) (gl : List Int) : Prop where
  nd : gl.Nodup
  at_ : ∀ x ∈ gl, inR x = true ∧ x ≠ wo ∧ ∃ n, Rn (Pout l wo) n fr x
  fr_ : fr ∈ gl
  done : ∀ (j : Nat) (a : Int), j < i → gl[j]? = some a → ∀ y, Pout l wo (a, y) → y ∈ gl

theorem Gi.len {l : List Hop} {wo fr : Int} {i : Nat} {gl : List Int} (h : Gi l wo fr i gl) : gl.length ≤ 8 := nodup_le 8 gl h.nd fun x hx => inR_iff.1 (h.at_ x hx).1

theorem Gi.push {l : List Hop} {wo fr : Int} {i : Nat} {gl : List Int} {a x : Int} (h : Gi l wo fr i gl) (hi : i ≤ gl.length) (ha : a ∈ gl) (hx : x ∉ gl) (hr : inR x = true) (hw : x ≠ wo) (hp : (a, x) ∈ l) : Gi l wo fr i (gl ++ [x]) := by
  obtain ⟨_, haw, n, hn⟩ := h.at_ a ha
  refine ⟨?_, fun y hy => ?_, by simp [h.fr_], fun j b hj hb y hy => ?_⟩
  · rw [List.nodup_append]
    refine ⟨h.nd, by simp, fun b hb c hc e => ?_⟩
    rw [List.mem_singleton] at hc
    subst hc e
    exact hx hb
  · rcases List.mem_append.1 hy with hy | hy
    · exact h.at_ y hy
    · rw [List.mem_singleton] at hy
      subst hy
      exact ⟨hr, hw, n + 1, .inr ⟨a, hn, hp, haw, hw⟩⟩
  · rw [List.getElem?_append_left (by omega)] at hb
    exact List.mem_append_left _ (h.done j b hj hb y hy)

theorem Gi.end_ {l : List Hop} {wo fr : Int} {gl : List Int} (h : Gi l wo fr gl.length gl) (x : Int) : x ∈ gl ↔ ∃ n, Rn (Pout l wo) n fr x := by
  suffices hs : ∀ (n : Nat) (x : Int), Rn (Pout l wo) n fr x → x ∈ gl from ⟨fun hx => (h.at_ x hx).2.2, fun ⟨n, hn⟩ => hs n x hn⟩
  clear x
  intro n
  induction n with
  | zero => exact fun x hn => (show fr = x from hn) ▸ h.fr_
  | succ n ih =>
    intro x hn
    rcases hn with hn | ⟨c, hn, hp⟩
    · exact ih x hn
    · obtain ⟨j, hj⟩ := List.getElem?_of_mem (ih c hn)
      exact h.done j c (List.getElem?_eq_some_iff.1 hj).1 hj x hp

end Go.Proofs.Ytdplmjlbkaipiaa.Ev

/- Realms that no way can do without: plain, and the reference's walk. -/
namespace Go.Proofs.Ytdplmjlbkaipiaa.Ev
set_option linter.all false
open Go
set_option maxRecDepth 4000

section
variable {P : Hop → Prop} {to : Int}
end

/-- A row of numbers of its own that is empty as yet. -/
theorem own_new {H : Hp} : SlI (H ++ [[]]) (.slice (some ⟨H.length, 0, some 1⟩) 0 (0 * 1)) [] := .inr ⟨H.length, 0, 0, [], rfl, by simp, by simp, by simp, by simp, fun i a hi => by simp at hi⟩

end Go.Proofs.Ytdplmjlbkaipiaa.Ev

/- The law Must. -/
namespace Go.Proofs.Ytdplmjlbkaipiaa.Ev
set_option linter.all false
open Go
set_option maxRecDepth 4000

end Go.Proofs.Ytdplmjlbkaipiaa.Ev

/- RouteOk, both of them. -/
namespace Go.Proofs.Ytdplmjlbkaipiaa.Ev
set_option linter.all false
open Go
set_option maxRecDepth 4000

end Go.Proofs.Ytdplmjlbkaipiaa.Ev

/- RouteOk: the program's own, and the law. -/
namespace Go.Proofs.Ytdplmjlbkaipiaa.Ev
set_option linter.all false
open Go
set_option maxRecDepth 4000

end Go.Proofs.Ytdplmjlbkaipiaa.Ev

/- What is said of ways: plain. -/
namespace Go.Proofs.Ytdplmjlbkaipiaa.Ev
set_option linter.all false
open Go
set_option maxRecDepth 4000

end Go.Proofs.Ytdplmjlbkaipiaa.Ev

/- GroupsOk: the program's own; rows of groups; the law. -/
namespace Go.Proofs.Ytdplmjlbkaipiaa.Ev
set_option linter.all false
open Go
set_option maxRecDepth 4000

theorem f41 {H : Hp} {v : Value} {l : List Group} (hl : SlG H v l) : Scal EE 41 [v] H (.bool (groupsOk l)) := by
  have hroom := hl.room
  have hv1 : vc v = some [v] := by rcases hl with ⟨rfl, _⟩ | ⟨_, _, _, _, rfl, _⟩ <;> rfl
  have hp : H <+: H ++ [[v]] := List.prefix_append _ _
  have hl0 := hl
  have hl := hl.preG hp
  refine scal_ok rfl rfl k41 (by simp [c41]) rfl fun m hw => ?_
  have hw := hw.pre hp
  have hid : (H ++ [[v]])[H.length]? = some [v] := by simp
  simp only [go_sem, ↓reduceIte, Nat.reduceEqDiff, reduceCtorEq, Nat.reduceAdd, Nat.reduceLeDiff, Nat.reduceMul, c41, hv1, hid, hl.len]
  refine go_for l.length (fun i s => s.H = H ++ [[v]] ∧ s.ρ 1 = .val (.pointer (some ⟨H.length, 0, some 1⟩)) ∧ s.ρ 5 = .val v ∧ s.ρ 6 = .val (.int .i64 l.length) ∧ s.ρ 7 = .val (.int .i64 i) ∧ ∀ j, j < i → GrIn l j)
    (fun s => s.H = H ++ [[v]] ∧ s.ρ 1 = .val (.pointer (some ⟨H.length, 0, some 1⟩)) ∧ ∀ j, GrIn l j) (by simp [upd, ini]) ?_ ?_
  · rintro i s hi ⟨hH, h0, h3, h9, h10, hn⟩
    simp only [go_sem, ↓reduceIte, Nat.reduceEqDiff, reduceCtorEq, Nat.reduceAdd, Nat.reduceLeDiff, Nat.reduceMul, h0, h3, h9, h10]
    refine brT.intro (fun h2 => ?_) (fun h2 => ?_) <;> simp only [go_sem, ↓reduceIte, Nat.reduceEqDiff, reduceCtorEq, Nat.reduceAdd, Nat.reduceLeDiff, Nat.reduceMul, h0, h3, h9, h10]
    · have h4 : i < l.length := by simpa using h2
      have hgi := List.getElem?_eq_getElem h4
      obtain ⟨id, p, o, u, z, ho, g0, g1, hr, hp, hu, hz, hia⟩ := hl.group hgi
      have a74 := fun {m draw s d ts Q} => callT_at (m := m) (draw := draw) (s := s) (d := d) (ts := ts) (Q := Q) (f74 hu)
      have a75 := fun {m draw s d ts Q} => callT_at (m := m) (draw := draw) (s := s) (d := d) (ts := ts) (Q := Q) (f75 hz)
      have a76 := fun {m draw s d ts Q} => callT_at (m := m) (draw := draw) (s := s) (d := d) (ts := ts) (Q := Q) (f76 (most := l.length) (k := 77) (caps := #[.pointer (some ⟨H.length, 0, some 1⟩)]) (p := fun n => decide (n ≥ 0) && decide (n ≤ (l.length : Int) - 1)) hz (fun n => f77 hl hid))
      have hs := all_set (l := l[i].2) (top := (l.length : Int) - 1) (by omega)
      have bad : ∀ {x : Bool}, (GrIn l i → x = true) → x = false → false = groupsOk l := fun hx hf => by
        have : ¬ ∀ j, GrIn l j := fun hj => by have := hx (hj i); rw [hf] at this; cases this
        simp [groupsOk, this]
      simp only [go_sem, ↓reduceIte, Nat.reduceEqDiff, reduceCtorEq, Nat.reduceAdd, Nat.reduceLeDiff, Nat.reduceMul, h0, h3, h9, h10, hia, hH, ho, hp, hr, g0, g1, a74, hw]
      refine brT.intro (fun h5 => ?_) (fun h5 => ?_) <;> simp only [go_sem, ↓reduceIte, Nat.reduceEqDiff, reduceCtorEq, Nat.reduceAdd, Nat.reduceLeDiff, Nat.reduceMul, h0, h3, h9, h10, h5, hia, hH, ho, hp, hr, g0, g1, a75, hw]
      · refine brT.intro (fun h6 => ?_) (fun h6 => ?_) <;> simp only [go_sem, ↓reduceIte, Nat.reduceEqDiff, reduceCtorEq, Nat.reduceAdd, Nat.reduceLeDiff, Nat.reduceMul, h0, h3, h9, h10, h5, h6, hia, hH, ho, hp, hr, g0, g1, hid, hl.len, a76, hw]
        · rw [h6] at hs
          refine brT.intro (fun h7 => ?_) (fun h7 => ?_) <;> simp only [go_sem, ↓reduceIte, Nat.reduceEqDiff, reduceCtorEq, Nat.reduceAdd, Nat.reduceLeDiff, Nat.reduceMul, h0, h3, h9, h10, wrap64 ((i : Int) + 1) (by omega) (by omega)]
          · refine ⟨h4, by simp, fun j hj => ?_⟩
            by_cases hji : j < i
            · exact hn j hji
            · have : j = i := by omega
              subst this
              intro h hh
              rw [hgi] at hh
              cases hh
              refine ⟨riseT_t.1 h5, hs.1 ⟨rfl, ?_⟩⟩
              simp at h7 ⊢
              exact ⟨h7.1, by omega⟩
          · refine ⟨bad (fun h => ?_) h7, by simp⟩
            have := (hs.2 (h _ hgi).2).2
            simp at this ⊢
            exact ⟨this.1, by omega⟩
        · refine ⟨bad (fun h => ?_) h6, by simp⟩
          exact riseP_t.2 (h _ hgi).2.2
      · exact ⟨bad (fun h => riseT_t.2 (h _ hgi).1) h5, by simp⟩
    · have h4 : ¬ i < l.length := by simpa using h2
      refine ⟨hH, fun j h hj => ?_⟩
      have := (List.getElem?_eq_some_iff.1 hj).1
      exact hn j (by omega) h hj
  · rintro s ⟨hH, h0, hn⟩
    simp only [go_sem, ↓reduceIte, Nat.reduceEqDiff, reduceCtorEq, Nat.reduceAdd, Nat.reduceLeDiff, Nat.reduceMul, hH, h0, hid, hl.len]
    refine ⟨?_, by simp⟩
    rw [Bool.eq_iff_iff]
    simp [groupsOk, hn]
    omega

def szG (g : Group) (left : Int) : Int := if szI g.1.length left < 0 then -1 else szI g.2.length (szI g.1.length left)
def szGs : List Group → Int → Int
  | [], left => left
  | g :: gs, left => if szG g left < 0 then -1 else szGs gs (szG g left)

theorem szI_le {n : Nat} {left : Int} (h : left ≤ 1048576) : szI n left ≤ 1048576 ∧ (szI n left < 0 ∨ (0 ≤ szI n left ∧ (n : Int) ≤ left)) := by unfold szI; split <;> omega
theorem szG_le {g : Group} {left : Int} (h : left ≤ 1048576) : szG g left ≤ 1048576 ∧ (szG g left < 0 ∨ (0 ≤ szG g left ∧ g.1.length ≤ 1048576 ∧ g.2.length ≤ 1048576)) := by
  unfold szG
  have h1 := szI_le (n := g.1.length) h
  have h2 := szI_le (n := g.2.length) h1.1
  split <;> omega
theorem szGs_le {l : List Group} : ∀ {left : Int}, left ≤ 1048576 → 0 ≤ szGs l left → ∀ g ∈ l, g.1.length ≤ 1048576 ∧ g.2.length ≤ 1048576 := by
  induction l with
  | nil => intro _ _ _ g hg; simp at hg
  | cons a l ih =>
    intro left h h0 g hg
    rw [szGs] at h0
    have hz := szG_le (g := a) h
    split at h0
    · omega
    · rcases List.mem_cons.1 hg with rfl | hg
      · omega
      · exact ih hz.1 h0 g hg

theorem f71 {H : Hp} {u z : Value} {g : Group} {left : Int} (hu : SlI H u g.1) (hz : SlI H z g.2) (h0 : 0 ≤ left) (h1 : left ≤ 1048576) : Scal EE 71 [.agg #[u, z], .int .i64 left] H (.int .i64 (szG g left)) := by
  refine scal_ok rfl rfl k71 (by simp [c71]) rfl fun m hw => ?_
  have a90 := fun {m draw s d ts Q} => callT_at (m := m) (draw := draw) (s := s) (d := d) (ts := ts) (Q := Q) (f90 (left := left) hu h0 h1)
  simp only [go_sem, ↓reduceIte, Nat.reduceEqDiff, reduceCtorEq, Nat.reduceAdd, Nat.reduceLeDiff, Nat.reduceMul, c71, a90, hw]
  refine brT.intro (fun h2 => ?_) (fun h2 => ?_) <;> simp only [go_sem, ↓reduceIte, Nat.reduceEqDiff, reduceCtorEq, Nat.reduceAdd, Nat.reduceLeDiff, Nat.reduceMul]
  · have := of_decide_eq_true h2
    simp [szG, this]
  have h2 := of_decide_eq_false h2
  have b90 := fun {m draw s d ts Q} => callT_at (m := m) (draw := draw) (s := s) (d := d) (ts := ts) (Q := Q) (f90 (left := szI g.1.length left) hz (by omega) (szI_le h1).1)
  simp only [go_sem, ↓reduceIte, Nat.reduceEqDiff, reduceCtorEq, Nat.reduceAdd, Nat.reduceLeDiff, Nat.reduceMul, b90, hw]
  refine brT.intro (fun h3 => ?_) (fun h3 => ?_) <;> simp only [go_sem, ↓reduceIte, Nat.reduceEqDiff, reduceCtorEq, Nat.reduceAdd, Nat.reduceLeDiff, Nat.reduceMul]
  · have h3 := of_decide_eq_true h3
    unfold szG
    rw [if_neg h2]
    unfold szI at h3 ⊢
    split <;> split at h3 <;> simp_all <;> omega
  · unfold szG
    rw [if_neg h2]

theorem f79 {H : Hp} {u z u' z' : Value} {g g' : Group} (hu : SlI H u g.1) (hz : SlI H z g.2) (hu' : SlI H u' g'.1) (hz' : SlI H z' g'.2) : Scal EE 79 [.agg #[u, z], .agg #[u', z']] H (.bool (decide (g = g'))) := by
  refine scal_ok rfl rfl k79 (by simp [c79]) rfl fun m hw => ?_
  have a23 := fun {m draw s d ts Q} => callT_at (m := m) (draw := draw) (s := s) (d := d) (ts := ts) (Q := Q) (f23 hu hu')
  have b23 := fun {m draw s d ts Q} => callT_at (m := m) (draw := draw) (s := s) (d := d) (ts := ts) (Q := Q) (f23 hz hz')
  simp only [go_sem, ↓reduceIte, Nat.reduceEqDiff, reduceCtorEq, Nat.reduceAdd, Nat.reduceLeDiff, Nat.reduceMul, c79, a23, hw]
  refine brT.intro (fun h1 => ?_) (fun h1 => ?_) <;> simp only [go_sem, ↓reduceIte, Nat.reduceEqDiff, reduceCtorEq, Nat.reduceAdd, Nat.reduceLeDiff, Nat.reduceMul, b23, hw]
  · refine brT.intro (fun h2 => ?_) (fun h2 => ?_) <;> simp only [go_sem, ↓reduceIte, Nat.reduceEqDiff, reduceCtorEq, Nat.reduceAdd, Nat.reduceLeDiff, Nat.reduceMul]
    · simp at h1 h2
      simp [Prod.ext_iff, h1, h2]
    · simp at h2
      simp [Prod.ext_iff, h2]
  · simp at h1
    simp [Prod.ext_iff, h1]
end Go.Proofs.Ytdplmjlbkaipiaa.Ev

/- Rows of groups: size, copy, likeness; the law GroupsOk. -/
namespace Go.Proofs.Ytdplmjlbkaipiaa.Ev
set_option linter.all false
open Go
set_option maxRecDepth 4000

def szGS (l : List Group) (left : Int) : Int := if left - l.length < 0 then -1 else szGs l (left - l.length)

theorem f38 {H : Hp} {v : Value} {l : List Group} {left : Int} (hl : SlG H v l) (h0 : 0 ≤ left) (h1 : left ≤ 1048576) : Scal EE 38 [v, .int .i64 left] H (.int .i64 (szGS l left)) := by
  refine scal_ok rfl rfl k38 (by simp [c38]) rfl fun m hw => ?_
  have hroom := hl.room
  simp only [go_sem, ↓reduceIte, Nat.reduceEqDiff, reduceCtorEq, Nat.reduceAdd, Nat.reduceLeDiff, Nat.reduceMul, c38, hl.len, wrap64 (left - (l.length : Int)) (by omega) (by omega)]
  refine brT.intro (fun h2 => ?_) (fun h2 => ?_) <;> simp only [go_sem, ↓reduceIte, Nat.reduceEqDiff, reduceCtorEq, Nat.reduceAdd, Nat.reduceLeDiff, Nat.reduceMul]
  · have h2 := of_decide_eq_true h2
    simp [szGS, h2]
  have h2 := of_decide_eq_false h2
  have e0 : szGS l left = szGs l (left - l.length) := by unfold szGS; rw [if_neg h2]
  refine go_for l.length (fun i s => s.H = H ∧ s.ρ 0 = .val v ∧ s.ρ 5 = .val (.int .i64 i) ∧ ∃ a : Int, s.ρ 1 = .val (.int .i64 a) ∧ 0 ≤ a ∧ a ≤ 1048576 ∧ szGs (l.drop i) a = szGS l left)
    (fun s => s.H = H ∧ s.ρ 1 = .val (.int .i64 (szGS l left))) (by simp [upd, ini, e0]; omega) ?_ ?_
  · rintro i s hi ⟨hH, h3, h5, a, h4, ha, ha2, hn⟩
    simp only [go_sem, ↓reduceIte, Nat.reduceEqDiff, reduceCtorEq, Nat.reduceAdd, Nat.reduceLeDiff, Nat.reduceMul, h3, h5, h4, hl.len]
    refine brT.intro (fun h6 => ?_) (fun h6 => ?_) <;> simp only [go_sem, ↓reduceIte, Nat.reduceEqDiff, reduceCtorEq, Nat.reduceAdd, Nat.reduceLeDiff, Nat.reduceMul, h3, h5, h4]
    · have h7 : i < l.length := by simpa using h6
      have hgi := List.getElem?_eq_getElem h7
      obtain ⟨id, p, o, u, z, ho, g0, g1, hr, hp, hu, hz, hia⟩ := hl.group hgi
      have a71 := fun {m draw s d ts Q} => callT_at (m := m) (draw := draw) (s := s) (d := d) (ts := ts) (Q := Q) (f71 (left := a) hu hz ha ha2)
      rw [List.drop_eq_getElem_cons h7, szGs] at hn
      simp only [go_sem, ↓reduceIte, Nat.reduceEqDiff, reduceCtorEq, Nat.reduceAdd, Nat.reduceLeDiff, Nat.reduceMul, h3, h5, h4, hia, hH, ho, hp, hr, a71, hw]
      refine brT.intro (fun h8 => ?_) (fun h8 => ?_) <;> simp only [go_sem, ↓reduceIte, Nat.reduceEqDiff, reduceCtorEq, Nat.reduceAdd, Nat.reduceLeDiff, Nat.reduceMul, h3, h5, h4, wrap64 ((i : Int) + 1) (by omega) (by omega)]
      · have h8 := of_decide_eq_true h8
        rw [if_pos h8] at hn
        exact hn
      · have h8 := of_decide_eq_false h8
        rw [if_neg h8] at hn
        exact ⟨h7, by simp, _, rfl, by omega, (szG_le ha2).1, hn⟩
    · have h7 : ¬ i < l.length := by simpa using h6
      rw [List.drop_of_length_le (by omega), szGs] at hn
      exact ⟨hH, by rw [← hn]⟩
  · rintro s ⟨hH, hn⟩
    simp only [go_sem, ↓reduceIte, Nat.reduceEqDiff, reduceCtorEq, Nat.reduceAdd, Nat.reduceLeDiff, Nat.reduceMul, hH, hn]

theorem f42 {H : Hp} {v u : Value} {l k : List Group} (hl : SlG H v l) (hk : SlG H u k) : Scal EE 42 [v, u] H (.bool (decide (l = k))) := by
  refine scal_ok rfl rfl k42 (by simp [c42]) rfl fun m hw => ?_
  have hroom := hl.room
  simp only [go_sem, ↓reduceIte, Nat.reduceEqDiff, reduceCtorEq, Nat.reduceAdd, Nat.reduceLeDiff, Nat.reduceMul, c42, hl.len, hk.len]
  refine brT.intro (fun h1 => ?_) (fun h1 => ?_) <;> simp only [go_sem, ↓reduceIte, Nat.reduceEqDiff, reduceCtorEq, Nat.reduceAdd, Nat.reduceLeDiff, Nat.reduceMul]
  · have hlen : l.length = k.length := by simp at h1; omega
    refine go_for l.length (fun i s => s.H = H ∧ s.ρ 0 = .val v ∧ s.ρ 1 = .val u ∧ s.ρ 5 = .val (.int .i64 i) ∧ l.take i = k.take i) (fun s => s.H = H ∧ l = k) (by simp [upd, ini]) ?_ ?_
    · rintro i s hi ⟨hH, h0, h1, h5, hn⟩
      simp only [go_sem, ↓reduceIte, Nat.reduceEqDiff, reduceCtorEq, Nat.reduceAdd, Nat.reduceLeDiff, Nat.reduceMul, h0, h1, h5, hl.len]
      refine brT.intro (fun h2 => ?_) (fun h2 => ?_) <;> simp only [go_sem, ↓reduceIte, Nat.reduceEqDiff, reduceCtorEq, Nat.reduceAdd, Nat.reduceLeDiff, Nat.reduceMul, h0, h1, h5]
      · have h3 : i < l.length := by simpa using h2
        have h4 : i < k.length := by omega
        obtain ⟨id, p, o, a, b, ho, g0, g1, hr, hp, ha, hb, hia⟩ := hl.group (List.getElem?_eq_getElem h3)
        obtain ⟨id2, p2, o2, a2, b2, ho2, g02, g12, hr2, hp2, ha2, hb2, hia2⟩ := hk.group (List.getElem?_eq_getElem h4)
        have a79 := fun {m draw s d ts Q} => callT_at (m := m) (draw := draw) (s := s) (d := d) (ts := ts) (Q := Q) (f79 ha hb ha2 hb2)
        refine go_draw ?_
        simp only [go_sem, ↓reduceIte, Nat.reduceEqDiff, reduceCtorEq, Nat.reduceAdd, Nat.reduceLeDiff, Nat.reduceMul, h0, h1, h5, hia, hH, ho, hr, hp, hia2, ho2, hr2, hp2, a79, hw]
        refine ⟨by rfl, brT.intro (fun h6 => ?_) (fun h6 => ?_)⟩ <;> simp only [go_sem, ↓reduceIte, Nat.reduceEqDiff, reduceCtorEq, Nat.reduceAdd, Nat.reduceLeDiff, Nat.reduceMul, h0, h1, h5, wrap64 ((i : Int) + 1) (by omega) (by omega)]
        · refine ⟨h3, by simp, ?_⟩
          rw [List.take_succ_eq_append_getElem h3, List.take_succ_eq_append_getElem h4, hn]
          have : l[i] = k[i] := of_decide_eq_true h6
          rw [this]
        · have : ¬ l[i] = k[i] := of_decide_eq_false h6
          have : ¬ l = k := fun e => by subst e; exact this rfl
          simp [this]
      · have h3 : ¬ i < l.length := by simpa using h2
        rw [List.take_of_length_le (by omega), List.take_of_length_le (by omega)] at hn
        exact ⟨hH, hn⟩
    · rintro s ⟨hH, hn⟩
      simp only [go_sem, ↓reduceIte, Nat.reduceEqDiff, reduceCtorEq, Nat.reduceAdd, Nat.reduceLeDiff, Nat.reduceMul, hH, hn]
  · have : ¬ l = k := fun e => by subst e; simp at h1
    simp [this]

theorem f73 {m : Md} {H : Hp} {u z : Value} {g : Group} (hu : SlI H u g.1) (hz : SlI H z g.2) (h1 : g.1.length ≤ 1048576) (h2 : g.2.length ≤ 1048576) (hw : Wr m H) :
    Fun EE m 73 [.agg #[u, z]] H fun r H' => ∃ u' z', r = .agg #[u', z'] ∧ H <+: H' ∧ SlI H' u' g.1 ∧ SlI H' z' g.2 ∧ OwnS H.length u' ∧ OwnS H.length z' := by
  refine fun_f rfl rfl k73 (by simp [c73]) ?_
  simp only [go_sem, ↓reduceIte, Nat.reduceEqDiff, reduceCtorEq, Nat.reduceAdd, Nat.reduceLeDiff, Nat.reduceMul, c73]
  refine callT_to (fun m' h => f21 hu h1 h) rfl hw fun r1 H1 ⟨p1, s1, o1⟩ => ?_
  have w1 := hw.pre p1
  simp only [go_sem, ↓reduceIte, Nat.reduceEqDiff, reduceCtorEq, Nat.reduceAdd, Nat.reduceLeDiff, Nat.reduceMul, s1.vc]
  refine callT_to (fun m' h => f21 (hz.pre p1) h2 h) rfl w1 fun r2 H2 ⟨p2, s2, o2⟩ => ?_
  simp only [go_sem, ↓reduceIte, Nat.reduceEqDiff, reduceCtorEq, Nat.reduceAdd, Nat.reduceLeDiff, Nat.reduceMul, s2.vc]
  refine ⟨_, _, rfl, p1.trans p2, s1.pre p2, s2, o1, ?_⟩
  rcases o2 with h | ⟨id, e, ln, cap, h, hid⟩
  · exact .inl h
  · exact .inr ⟨id, e, ln, cap, h, Nat.le_trans p1.length_le hid⟩
end Go.Proofs.Ytdplmjlbkaipiaa.Ev

/- A copy of a row of groups; the law GroupsOk. -/
namespace Go.Proofs.Ytdplmjlbkaipiaa.Ev
set_option linter.all false
open Go
set_option maxRecDepth 4000

theorem callT_nr {E : Env} {m : Md} {f : Nat} {vs : List Value} {H : Hp} {P : Value → Hp → Prop} {draw : Bool} {s : St} {d : Option Nat} {ts : List Tk} {Q : Ex → St → Prop} (h : ∀ m' : Md, Wr m' H → m'.nr = m.nr → Fun E m' f vs H P) (hH : s.H = H) (hw : Wr m H)
    (hq : ∀ r H', P r H' → go E m ts { s with H := H', ρ := upd s.ρ d (.val r) } Q) : callT E m draw f (some vs) s d ts Q := by
  subst hH
  exact callT_ok (fun m' _ h2 h3 _ => h m' h2 h3) hw hq

/-- Groups whose numbers don't lie in a row. -/
def RGx (x : Nat) (H : Hp) (g : Group) (cs : List Value) : Prop := ∃ u s, cs = [u, s] ∧ SlI H u g.1 ∧ SlI H s g.2 ∧ x ∉ idsOf u ∧ x ∉ idsOf s
theorem RGx.rg {x : Nat} {H : Hp} {g : Group} {cs : List Value} (h : RGx x H g cs) : RG H g cs := by
  obtain ⟨u, s, e, a, b, _⟩ := h
  exact ⟨u, s, e, a, b⟩
theorem RGx.pre {x : Nat} {H H' : Hp} {g : Group} {cs : List Value} (h : RGx x H g cs) (hp : H <+: H') : RGx x H' g cs := by
  obtain ⟨u, s, e, a, b, c⟩ := h
  exact ⟨u, s, e, a.pre hp, b.pre hp, c⟩
theorem RGx.set {x : Nat} {H : Hp} {r : List Value} {g : Group} {cs : List Value} (h : RGx x H g cs) : RGx x (H.set x r) g cs := by
  obtain ⟨u, s, e, a, b, c, d⟩ := h
  exact ⟨u, s, e, a.other c, b.other d, c, d⟩
end Go.Proofs.Ytdplmjlbkaipiaa.Ev

/- Groups below groups: plain. -/
namespace Go.Proofs.Ytdplmjlbkaipiaa.Ev
set_option linter.all false
open Go
set_option maxRecDepth 4000

section
variable {P : Hop → Prop} {to : Int} {N : Nat}
end

/-- One group right below another one. -/
def PG (g : List Group) (h : Hop) : Prop := ∃ (k : Nat) (x : Group), h.1 = k ∧ g[k]? = some x ∧ h.2 ∈ x.2
/-- Below, in one step or more. -/
def Bel (g : List Group) (i x : Int) : Prop := ∃ n y, PG g (i, y) ∧ Rn (PG g) n y x

theorem PG.at {g : List Group} {k : Nat} {x : Group} (hk : g[k]? = some x) (y : Int) : PG g ((k : Int), y) ↔ y ∈ x.2 := by
  constructor
  · rintro ⟨k', x', h1, h2, h3⟩
    have : k = k' := Int.ofNat.inj h1
    subst this
    rw [hk] at h2
    cases h2
    exact h3
  · exact fun h => ⟨k, x, rfl, hk, h⟩

theorem groupsOk_in {g : List Group} (h : groupsOk g = true) : g.length ≤ 8 ∧ ∀ i, GrIn g i := by simpa [groupsOk] using h

theorem PG.in {g : List Group} (hg : groupsOk g = true) {h : Hop} (hp : PG g h) : (0 ≤ h.1 ∧ h.1 < g.length) ∧ 0 ≤ h.2 ∧ h.2 < g.length := by
  obtain ⟨k, x, h1, h2, h3⟩ := hp
  have hk := (List.getElem?_eq_some_iff.1 h2).1
  have := ((groupsOk_in hg).2 k x h2).2.1 _ h3
  unfold inT at this
  omega

/-- What holds of the groups found so far, of which the first ones are done. -/
structure Bi (g : List Group) (some_ : List Int) (i : Nat) (gl : List Int) : Prop where
  nd : gl.Nodup
  at_ : ∀ x ∈ gl, (0 ≤ x ∧ x < g.length) ∧ ∃ y ∈ some_, ∃ n, Rn (PG g) n y x
  fr_ : ∀ y ∈ some_, y ∈ gl
  done : ∀ (j : Nat) (a : Int), j < i → gl[j]? = some a → ∀ y, PG g (a, y) → y ∈ gl

theorem Bi.len {g : List Group} {sm : List Int} {i : Nat} {gl : List Int} (h : Bi g sm i gl) : gl.length ≤ g.length := nodup_le g.length gl h.nd fun x hx => (h.at_ x hx).1

theorem Bi.push {g : List Group} {sm : List Int} {i : Nat} {gl : List Int} {a x : Int} (h : Bi g sm i gl) (hi : i ≤ gl.length) (ha : a ∈ gl) (hx : x ∉ gl) (hr : 0 ≤ x ∧ x < g.length) (hp : PG g (a, x)) : Bi g sm i (gl ++ [x]) := by
  obtain ⟨_, z, hz, n, hn⟩ := h.at_ a ha
  refine ⟨?_, fun y hy => ?_, fun y hy => List.mem_append_left _ (h.fr_ y hy), fun j b hj hb y hy => ?_⟩
  · rw [List.nodup_append]
    refine ⟨h.nd, by simp, fun b hb c hc e => ?_⟩
    rw [List.mem_singleton] at hc
    subst hc e
    exact hx hb
  · rcases List.mem_append.1 hy with hy | hy
    · exact h.at_ y hy
    · rw [List.mem_singleton] at hy
      subst hy
      exact ⟨hr, z, hz, n + 1, .inr ⟨a, hn, hp⟩⟩
  · rw [List.getElem?_append_left (by omega)] at hb
    exact List.mem_append_left _ (h.done j b hj hb y hy)

theorem Bi.end_ {g : List Group} {sm : List Int} {gl : List Int} (h : Bi g sm gl.length gl) (x : Int) : x ∈ gl ↔ ∃ y ∈ sm, ∃ n, Rn (PG g) n y x := by
  suffices hs : ∀ (n : Nat) (y x : Int), y ∈ sm → Rn (PG g) n y x → x ∈ gl from ⟨fun hx => (h.at_ x hx).2, fun ⟨y, hy, n, hn⟩ => hs n y x hy hn⟩
  intro n
  induction n with
  | zero => exact fun y x hy hn => (show y = x from hn) ▸ h.fr_ y hy
  | succ n ih =>
    intro y x hy hn
    rcases hn with hn | ⟨c, hn, hp⟩
    · exact ih y x hy hn
    · obtain ⟨j, hj⟩ := List.getElem?_of_mem (ih y c hy hn)
      exact h.done j c (List.getElem?_eq_some_iff.1 hj).1 hj x hp

/-- What is below, as marks. -/
def eB (b : Bool) : List Value := [.bool b]
abbrev SlB (H : Hp) (v : Value) (l : List Bool) : Prop := Sl (En eB) 1 H v l
theorem Sl.bool {H : Hp} {v : Value} {l : List Bool} (h : SlB H v l) {i : Nat} {a : Bool} (hi : l[i]? = some a) : ∃ id p o, H[id]? = some o ∧ o[p]? = some (.bool a) ∧
    ∀ (s : St) (x y : X), exv s.ρ x = some v → exv s.ρ y = some (.int .i64 i) → iadrK s 1 x y = some (.val (.pointer (some ⟨id, p, some o.length⟩)), s) := by
  obtain ⟨id, p, o, ho, hr, hp, hia⟩ := h.elem hi
  unfold En at hr
  exact ⟨id, p, o, ho, by simpa [eB] using getElem?_of_take hr (j := 0) (by omega), hia⟩

/-- Marks that all stand for groups below, and hold at least some. -/
structure Mk (g : List Group) (i : Int) (Q : Int → Prop) (b : List Bool) : Prop where
  len : b.length = g.length
  snd : ∀ x : Nat, b[x]? = some true → Bel g i x
  has : ∀ x : Nat, x < g.length → Q x → b[x]? = some true

theorem Mk.put {g : List Group} {i : Int} {Q : Int → Prop} {b : List Bool} {y : Nat} (h : Mk g i Q b) (hy : Bel g i y) (hl : y < g.length) : Mk g i (fun x => Q x ∨ x = y) (b.set y true) := by
  refine ⟨by simp [h.len], fun x hx => ?_, fun x hx hq => ?_⟩
  · rw [List.getElem?_set] at hx
    split at hx
    · rename_i e; subst e; exact hy
    · exact h.snd x hx
  · rw [List.getElem?_set]
    split
    · rename_i e; subst e; rw [if_pos (by rw [h.len]; exact hl)]
    · rename_i e
      rcases hq with hq | hq
      · exact h.has x hx hq
      · exact absurd (by omega) e

theorem Mk.mono {g : List Group} {i : Int} {Q Q' : Int → Prop} {b : List Bool} (h : Mk g i Q b) (hq : ∀ x : Nat, x < g.length → Q' x → Q x) : Mk g i Q' b := ⟨h.len, h.snd, fun x hx hq' => h.has x hx (hq x hx hq')⟩

open Classical in
noncomputable def belL (g : List Group) (i : Int) : List Bool := (List.range g.length).map fun (x : Nat) => decide (Bel g i x)
theorem belL_get {g : List Group} {i : Int} {x : Nat} {b : Bool} (h : (belL g i)[x]? = some b) : b = true ↔ Bel g i x := by
  classical
  unfold belL at h
  rw [List.getElem?_map] at h
  cases hr : (List.range g.length)[x]? with
  | none => rw [hr] at h; cases h
  | some y =>
    rw [hr] at h
    have : y = x := by
      rw [List.getElem?_range] at hr
      · exact (Option.some.inj hr).symm
      · have := (List.getElem?_eq_some_iff.1 hr).1
        simpa using this
    subst this
    simp at h
    subst h
    simp

theorem Mk.all {g : List Group} {i : Int} {b : List Bool} (h : Mk g i (fun x => Bel g i x) b) : b = belL g i := by
  refine List.ext_getElem? fun x => ?_
  by_cases hx : x < g.length
  · obtain ⟨c, hc⟩ : ∃ c, (belL g i)[x]? = some c := ⟨_, List.getElem?_eq_getElem (by simpa [belL] using hx)⟩
    obtain ⟨d, hd⟩ : ∃ d, b[x]? = some d := ⟨_, List.getElem?_eq_getElem (by rw [h.len]; exact hx)⟩
    rw [hc, hd]
    have e1 := belL_get hc
    cases d with
    | true => rw [e1.2 (h.snd x hd)]
    | false =>
      cases c with
      | false => rfl
      | true => rw [h.has x hx (e1.1 rfl)] at hd; cases hd
  · rw [List.getElem?_eq_none (by rw [h.len]; omega), List.getElem?_eq_none (by simp [belL]; omega)]
end Go.Proofs.Ytdplmjlbkaipiaa.Ev

/- Code of the program's functions, as the small machine has it: written by mkcode.py. -/
namespace Go.Proofs.Ytdplmjlbkaipiaa.Ev
set_option linter.all false
open Go
def c7 : CF := ⟨74, (.seq (.reg false [⟨(some 4), .none, (.mov (.c (.bool false))), 0, []⟩]) (.seq (.reg false [⟨(some 5), .none, (.mov (.c (.int .i64 1048576))), 0, []⟩]) (.seq (.reg false [⟨(some 13), .none, (.mov (.t 0)), 0, []⟩, ⟨(some 14), .none, (.mov (.t 5)), 1, []⟩, ⟨(some 15), .none, (.call 15 [(.t 13), (.t 14)]), 2, []⟩, ⟨(some 5), .none, (.mov (.t 15)), 3, []⟩]) (.seq (.seq (.reg false [⟨(some 16), .none, (.mov (.t 5)), 0, []⟩, ⟨(some 17), .none, (.bin .lss (.t 16) (.c (.int .i64 0))), 1, []⟩]) (.cond (.t 17) (.seq (.reg false [⟨(some 4), .none, (.mov (.c (.bool true))), 0, []⟩]) .ret) .skip)) (.seq (.reg false [⟨(some 18), .none, (.mov (.t 0)), 0, []⟩, ⟨(some 19), .none, (.call 17 [(.t 18)]), 1, []⟩, ⟨(some 20), .none, (.mov (.t 1)), 2, []⟩, ⟨(some 21), .none, (.call 31 [(.t 19), (.t 20)]), 3, []⟩, ⟨(some 6), .none, (.mov (.t 21)), 4, []⟩]) (.seq (.reg false [⟨(some 22), .none, (.mov (.t 0)), 0, []⟩, ⟨(some 23), .none, (.call 17 [(.t 22)]), 1, []⟩, ⟨(some 7), .none, (.mov (.t 23)), 2, []⟩]) (.seq (.reg false [⟨(some 24), .none, (.mov (.t 7)), 0, []⟩, ⟨(some 25), .none, (.mov (.t 1)), 1, []⟩, ⟨(some 26), .none, (.call 32 [(.t 24), (.t 25)]), 2, []⟩, ⟨(some 8), .none, (.mov (.t 26)), 3, []⟩]) (.seq (.seq (.reg false [⟨(some 27), .none, (.mov (.t 8)), 0, []⟩, ⟨(some 28), .none, (.mov (.t 6)), 1, []⟩, ⟨(some 29), .none, (.call 23 [(.t 27), (.t 28)]), 2, []⟩, ⟨(some 30), .none, (.un .not (.t 29)), 3, []⟩]) (.cond (.t 30) (.seq (.reg false [⟨(some 4), .none, (.mov (.c (.bool false))), 0, []⟩]) .ret) .skip)) (.seq (.seq (.reg false [⟨(some 31), .none, (.mov (.t 7)), 0, []⟩, ⟨(some 32), .none, (.mov (.t 0)), 1, []⟩, ⟨(some 33), .none, (.call 17 [(.t 32)]), 2, []⟩, ⟨(some 34), .none, (.call 19 [(.t 31), (.t 33)]), 3, []⟩, ⟨(some 35), .none, (.un .not (.t 34)), 4, []⟩]) (.cond (.t 35) (.seq (.reg false [⟨(some 4), .none, (.mov (.c (.bool false))), 0, []⟩]) .ret) .skip)) (.seq (.reg false [⟨(some 9), .none, (.mov (.c (.int .i64 1))), 0, []⟩]) (.seq (.reg false [⟨(some 36), .none, (.mov (.t 7)), 0, []⟩, ⟨(some 37), .none, (.mov (.t 9)), 1, []⟩, ⟨(some 38), .none, (.call 26 [(.t 36), (.t 37)]), 2, []⟩, ⟨(some 9), .none, (.mov (.t 38)), 3, []⟩]) (.seq (.seq (.reg false [⟨(some 39), .none, (.mov (.t 9)), 0, []⟩, ⟨(some 40), .none, (.bin .lss (.t 39) (.c (.int .i64 0))), 1, []⟩, ⟨(some 41), .none, (.mov (.t 40)), 2, []⟩, ⟨(some 42), (.some (41, false)), (.mov (.t 8)), 3, []⟩, ⟨(some 43), (.some (41, false)), (.mov (.t 6)), 4, []⟩, ⟨(some 44), (.some (41, false)), (.call 23 [(.t 42), (.t 43)]), 5, []⟩, ⟨(some 45), (.some (41, false)), (.un .not (.t 44)), 6, []⟩, ⟨(some 46), .none, (.pick (.t 41) (.c (.bool true)) (.t 45)), 7, []⟩]) (.cond (.t 46) (.seq (.reg false [⟨(some 4), .none, (.mov (.c (.bool false))), 0, []⟩]) .ret) .skip)) (.seq (.reg false [⟨(some 10), .none, (.mov (.c (.int .i64 1))), 0, []⟩]) (.seq (.reg false [⟨(some 47), .none, (.mov (.t 8)), 0, []⟩, ⟨(some 48), .none, (.mov (.t 10)), 1, []⟩, ⟨(some 49), .none, (.call 27 [(.t 47), (.t 48)]), 2, []⟩, ⟨(some 10), .none, (.mov (.t 49)), 3, []⟩]) (.seq (.reg false [⟨(some 11), .none, (.mov (.c (.int .i64 1))), 0, []⟩]) (.seq (.reg false [⟨(some 50), .none, (.mov (.t 8)), 0, []⟩, ⟨(some 51), .none, (.mov (.t 11)), 1, []⟩, ⟨(some 52), .none, (.call 28 [(.t 50), (.t 51)]), 2, []⟩, ⟨(some 11), .none, (.mov (.t 52)), 3, []⟩]) (.seq (.seq (.reg false [⟨(some 53), .none, (.mov (.t 11)), 0, []⟩, ⟨(some 54), .none, (.bin .lss (.t 53) (.c (.int .i64 0))), 1, []⟩]) (.cond (.t 54) (.seq (.reg false [⟨(some 4), .none, (.mov (.c (.bool false))), 0, []⟩]) .ret) .skip)) (.seq (.seq (.reg false [⟨(some 55), .none, (.mov (.t 11)), 0, []⟩, ⟨(some 56), .none, (.mov (.t 10)), 1, []⟩, ⟨(some 57), .none, (.bin .neq (.t 55) (.t 56)), 2, []⟩]) (.cond (.t 57) (.seq (.reg false [⟨(some 4), .none, (.mov (.c (.bool false))), 0, []⟩]) .ret) .skip)) (.seq (.reg false [⟨(some 58), .none, (.mov (.t 0)), 0, []⟩, ⟨(some 59), .none, (.call 17 [(.t 58)]), 1, []⟩, ⟨(some 60), .none, (.mov (.t 1)), 2, []⟩, ⟨(some 61), .none, (.call 32 [(.t 59), (.t 60)]), 3, []⟩, ⟨(some 12), .none, (.mov (.t 61)), 4, []⟩]) (.seq (.seq (.reg false [⟨(some 62), .none, (.mov (.t 12)), 0, []⟩, ⟨(some 63), .none, (.mov (.t 6)), 1, []⟩, ⟨(some 64), .none, (.call 23 [(.t 62), (.t 63)]), 2, []⟩, ⟨(some 65), .none, (.un .not (.t 64)), 3, []⟩]) (.cond (.t 65) (.seq (.reg false [⟨(some 4), .none, (.mov (.c (.bool false))), 0, []⟩]) .ret) .skip)) (.seq (.reg false [⟨(some 11), .none, (.mov (.c (.int .i64 1))), 0, []⟩]) (.seq (.reg false [⟨(some 66), .none, (.mov (.t 8)), 0, []⟩, ⟨(some 67), .none, (.mov (.t 11)), 1, []⟩, ⟨(some 68), .none, (.call 28 [(.t 66), (.t 67)]), 2, []⟩, ⟨(some 11), .none, (.mov (.t 68)), 3, []⟩]) (.seq (.seq (.reg false [⟨(some 69), .none, (.mov (.t 11)), 0, []⟩, ⟨(some 70), .none, (.bin .lss (.t 69) (.c (.int .i64 0))), 1, []⟩]) (.cond (.t 70) (.seq (.reg false [⟨(some 4), .none, (.mov (.c (.bool false))), 0, []⟩]) .ret) .skip)) (.seq (.seq (.reg false [⟨(some 71), .none, (.mov (.t 11)), 0, []⟩, ⟨(some 72), .none, (.mov (.t 10)), 1, []⟩, ⟨(some 73), .none, (.bin .neq (.t 71) (.t 72)), 2, []⟩]) (.cond (.t 73) (.seq (.reg false [⟨(some 4), .none, (.mov (.c (.bool false))), 0, []⟩]) .ret) .skip)) (.seq (.reg false [⟨(some 4), .none, (.mov (.c (.bool true))), 0, []⟩]) .ret))))))))))))))))))))))))), [(.t 4)]⟩
theorem k7 : EE.fns 7 = some c7 := by kernel_rfl
def c66 : CF := ⟨7, (.seq (.reg false [⟨(some 2), .none, (.mov (.c (.slice .none 0 0))), 0, []⟩]) (.seq (.reg false [⟨(some 3), .none, (.mov (.t 0)), 0, []⟩, ⟨(some 4), .none, (.call 87 [(.t 3)]), 1, []⟩]) (.seq (.reg false [⟨(some 5), .none, (.mov (.t 0)), 0, []⟩, ⟨(some 6), .none, (.call 88 [(.t 5)]), 1, []⟩, ⟨(some 2), .none, (.mov (.t 6)), 2, []⟩]) .ret))), [(.t 2)]⟩
theorem k66 : EE.fns 66 = some c66 := by kernel_rfl
def c88 : CF := ⟨61, (.seq (.reg false [⟨(some 2), .none, (.mov (.c (.slice .none 0 0))), 0, []⟩]) (.seq (.seq (.reg false [⟨(some 6), .none, (.mov (.t 0)), 0, []⟩, ⟨(some 7), .none, (.lenS (.t 6)), 1, []⟩, ⟨(some 8), .none, (.bin .lss (.t 7) (.c (.int .i64 2))), 2, []⟩]) (.cond (.t 8) (.seq (.reg false [⟨(some 9), .none, (.mov (.t 0)), 0, []⟩, ⟨(some 2), .none, (.mov (.t 9)), 1, []⟩]) .ret) .skip)) (.seq (.seq (.reg false [⟨(some 3), .none, (.mov (.c (.int .i64 1))), 0, []⟩]) (.block 0 (.loop (.seq (.seq (.reg false [⟨(some 10), .none, (.mov (.t 3)), 0, []⟩, ⟨(some 11), .none, (.mov (.t 0)), 1, []⟩, ⟨(some 12), .none, (.lenS (.t 11)), 2, []⟩, ⟨(some 13), .none, (.bin .lss (.t 10) (.t 12)), 3, []⟩]) (.cond (.t 13) .skip (.exit 0))) (.seq (.block 1 (.seq (.reg true [⟨(some 16), .none, (.mov (.t 0)), 0, []⟩, ⟨(some 17), .none, (.mov (.t 3)), 1, []⟩, ⟨(some 18), .none, (.iadr 1 (.t 16) (.t 17)), 2, [0, 1]⟩, ⟨(some 19), .none, (.load 1 false (.t 18)), 3, [2, 0, 1]⟩, ⟨(some 20), .none, (.mov (.t 0)), 4, []⟩, ⟨(some 21), .none, (.mov (.t 3)), 5, []⟩, ⟨(some 22), .none, (.bin .sub (.t 21) (.c (.int .i64 1))), 6, [5]⟩, ⟨(some 23), .none, (.iadr 1 (.t 20) (.t 22)), 7, [4, 6, 5]⟩, ⟨(some 24), .none, (.load 1 false (.t 23)), 8, [7, 4, 6, 5]⟩, ⟨(some 25), .none, (.bin .eql (.t 19) (.t 24)), 9, [3, 2, 0, 1, 8, 7, 4, 6, 5]⟩]) (.cond (.t 25) (.seq (.reg false [⟨(some 26), .none, (.mov (.t 0)), 0, []⟩, ⟨(some 27), .none, (.mov (.t 3)), 1, []⟩, ⟨(some 28), .none, (.slc 1 (.t 26) (.some (.t 27)) .none), 2, []⟩, ⟨(some 4), .none, (.mov (.t 28)), 3, []⟩]) (.seq (.seq (.reg false [⟨(some 5), .none, (.mov (.c (.int .i64 1))), 0, []⟩]) (.block 2 (.loop (.seq (.seq (.reg false [⟨(some 29), .none, (.mov (.t 5)), 0, []⟩, ⟨(some 30), .none, (.mov (.t 4)), 1, []⟩, ⟨(some 31), .none, (.lenS (.t 30)), 2, []⟩, ⟨(some 32), .none, (.bin .lss (.t 29) (.t 31)), 3, []⟩]) (.cond (.t 32) .skip (.exit 2))) (.seq (.block 3 (.seq (.reg true [⟨(some 35), .none, (.mov (.t 4)), 0, []⟩, ⟨(some 36), .none, (.mov (.t 5)), 1, []⟩, ⟨(some 37), .none, (.iadr 1 (.t 35) (.t 36)), 2, [0, 1]⟩, ⟨(some 38), .none, (.load 1 false (.t 37)), 3, [2, 0, 1]⟩, ⟨(some 39), .none, (.mov (.t 4)), 4, []⟩, ⟨(some 40), .none, (.mov (.t 5)), 5, []⟩, ⟨(some 41), .none, (.bin .sub (.t 40) (.c (.int .i64 1))), 6, [5]⟩, ⟨(some 42), .none, (.iadr 1 (.t 39) (.t 41)), 7, [4, 6, 5]⟩, ⟨(some 43), .none, (.load 1 false (.t 42)), 8, [7, 4, 6, 5]⟩, ⟨(some 44), .none, (.bin .neq (.t 38) (.t 43)), 9, [3, 2, 0, 1, 8, 7, 4, 6, 5]⟩]) (.cond (.t 44) (.seq (.reg false [⟨(some 45), .none, (.mov (.t 0)), 0, []⟩, ⟨(some 46), .none, (.mov (.t 3)), 1, []⟩, ⟨(some 47), .none, (.mov (.t 4)), 2, []⟩, ⟨(some 48), .none, (.mov (.t 5)), 3, []⟩, ⟨(some 49), .none, (.iadr 1 (.t 47) (.t 48)), 4, []⟩, ⟨(some 50), .none, (.load 1 false (.t 49)), 5, []⟩, ⟨(some 51), .none, (.iadr 1 (.t 45) (.t 46)), 6, []⟩, ⟨.none, .none, (.store 1 (.t 51) (.t 50)), 7, []⟩]) (.reg false [⟨(some 52), .none, (.mov (.t 3)), 0, []⟩, ⟨(some 53), .none, (.bin .add (.t 52) (.c (.int .i64 1))), 1, []⟩, ⟨(some 3), .none, (.mov (.t 53)), 2, []⟩])) .skip))) (.reg false [⟨(some 33), .none, (.mov (.t 5)), 0, []⟩, ⟨(some 34), .none, (.bin .add (.t 33) (.c (.int .i64 1))), 1, []⟩, ⟨(some 5), .none, (.mov (.t 34)), 2, []⟩])))))) (.seq (.reg false [⟨(some 54), .none, (.mov (.t 0)), 0, []⟩, ⟨(some 55), .none, (.mov (.t 3)), 1, []⟩, ⟨(some 56), .none, (.slc 1 (.t 54) (.some (.t 55)) .none), 2, []⟩, ⟨.none, .none, (.clr 1 [(.int .i64 0)] (.t 56)), 3, []⟩]) (.seq (.reg false [⟨(some 57), .none, (.mov (.t 0)), 0, []⟩, ⟨(some 58), .none, (.mov (.t 3)), 1, []⟩, ⟨(some 59), .none, (.slc 1 (.t 57) .none (.some (.t 58))), 2, []⟩, ⟨(some 2), .none, (.mov (.t 59)), 3, []⟩]) .ret)))) .skip))) (.reg false [⟨(some 14), .none, (.mov (.t 3)), 0, []⟩, ⟨(some 15), .none, (.bin .add (.t 14) (.c (.int .i64 1))), 1, []⟩, ⟨(some 3), .none, (.mov (.t 15)), 2, []⟩])))))) (.seq (.reg false [⟨(some 60), .none, (.mov (.t 0)), 0, []⟩, ⟨(some 2), .none, (.mov (.t 60)), 1, []⟩]) .ret)))), [(.t 2)]⟩
theorem k88 : EE.fns 88 = some c88 := by kernel_rfl
end Go.Proofs.Ytdplmjlbkaipiaa.Ev

/- slices.Sort in this program: the shelf's contract. -/
namespace Go.Proofs.Ytdplmjlbkaipiaa.Ev
set_option linter.all false
open Go Go.Shelf
def lays189_ren : Go.Shelf.Ren := ⟨fun | 189 => 87 | 125 => 96 | 257 => 95 | 128 => 106 | 129 => 107 | 294 => 97 | 295 => 98 | 296 => 99 | 297 => 100 | 298 => 101 | 299 => 102 | 216 => 103 | 300 => 104 | 301 => 105 | 328 => 108 | 329 => 109 | 330 => 110 | 331 => 111 | 332 => 112 | 215 => 113 | 343 => 114 | n => n, fun | 28 => 29 | 3 => 3 | 46 => 101 | 0 => 0 | 51 => 112 | 53 => 114 | 4 => 4 | 183 => 104 | 182 => 103 | 131 => 109 | 5 => 5 | 9 => 9 | 218 => 115 | 222 => 119 | 228 => 121 | 229 => 122 | n => n, fun | n => n⟩
theorem lays189 : Go.Proofs.Lays.n189 Try.prog lays189_ren where
  mixed := by kernel_rfl
  f125 := Try.func96.trans (congrArg some (by kernel_rfl))
  f128 := Try.func106.trans (congrArg some (by kernel_rfl))
  f129 := Try.func107.trans (congrArg some (by kernel_rfl))
  f189 := Try.func87.trans (congrArg some (by kernel_rfl))
  f215 := Try.func113.trans (congrArg some (by kernel_rfl))
  f216 := Try.func103.trans (congrArg some (by kernel_rfl))
  f257 := Try.func95.trans (congrArg some (by kernel_rfl))
  f294 := Try.func97.trans (congrArg some (by kernel_rfl))
  f295 := Try.func98.trans (congrArg some (by kernel_rfl))
  f296 := Try.func99.trans (congrArg some (by kernel_rfl))
  f297 := Try.func100.trans (congrArg some (by kernel_rfl))
  f298 := Try.func101.trans (congrArg some (by kernel_rfl))
  f299 := Try.func102.trans (congrArg some (by kernel_rfl))
  f300 := Try.func104.trans (congrArg some (by kernel_rfl))
  f301 := Try.func105.trans (congrArg some (by kernel_rfl))
  f328 := Try.func108.trans (congrArg some (by kernel_rfl))
  f329 := Try.func109.trans (congrArg some (by kernel_rfl))
  f330 := Try.func110.trans (congrArg some (by kernel_rfl))
  f331 := Try.func111.trans (congrArg some (by kernel_rfl))
  f332 := Try.func112.trans (congrArg some (by kernel_rfl))
  f343 := Try.func114.trans (congrArg some (by kernel_rfl))
  t0 := Try.underlying0
  a0 := Try.isAgg0
  z0 := Try.sizeOf0
  v0 := Try.zeroValue0
  t3 := Try.underlying3
  a3 := Try.isAgg3
  z3 := Try.sizeOf3
  v3 := Try.zeroValue3
  t4 := Try.underlying4
  a4 := Try.isAgg4
  z4 := Try.sizeOf4
  v4 := Try.zeroValue4
  t5 := Try.underlying5
  a5 := Try.isAgg5
  z5 := Try.sizeOf5
  v5 := Try.zeroValue5
  t9 := Try.underlying9
  a9 := Try.isAgg9
  z9 := Try.sizeOf9
  v9 := Try.zeroValue9
  t28 := Try.underlying29
  a28 := Try.isAgg29
  z28 := Try.sizeOf29
  v28 := Try.zeroValue29
  t46 := Try.underlying101
  a46 := Try.isAgg101
  z46 := Try.sizeOf101
  v46 := Try.zeroValue101
  t51 := Try.underlying112
  a51 := Try.isAgg112
  z51 := Try.sizeOf112
  v51 := Try.zeroValue112
  t53 := Try.underlying114
  a53 := Try.isAgg114
  z53 := Try.sizeOf114
  v53 := Try.zeroValue114
  t131 := Try.underlying109
  a131 := Try.isAgg109
  z131 := Try.sizeOf109
  v131 := Try.zeroValue109
  t182 := Try.underlying103
  a182 := Try.isAgg103
  z182 := Try.sizeOf103
  v182 := Try.zeroValue103
  t183 := Try.underlying104
  a183 := Try.isAgg104
  z183 := Try.sizeOf104
  v183 := Try.zeroValue104
  t218 := Try.underlying115
  a218 := Try.isAgg115
  z218 := Try.sizeOf115
  v218 := Try.zeroValue115
  t222 := Try.underlying119
  a222 := Try.isAgg119
  z222 := Try.sizeOf119
  v222 := Try.zeroValue119
  t228 := Try.underlying121
  a228 := Try.isAgg121
  z228 := Try.sizeOf121
  v228 := Try.zeroValue121
  t229 := Try.underlying122
  a229 := Try.isAgg122
  z229 := Try.sizeOf122
  v229 := Try.zeroValue122
theorem sortOk : SortOk Try.prog 87 :=
  ⟨⟨Try.f87, Try.func87, rfl, by kernel_rfl⟩, fun blk off cap zs w h hb hl => Any.slices_Sort_int lays189 blk off cap zs w h hb hl, fun p cap w => Any.slices_Sort_int_none lays189 p cap w⟩
end Go.Proofs.Ytdplmjlbkaipiaa.Ev

/- The calls that are told by themselves: slices.Sort alone. -/
namespace Go.Proofs.Ytdplmjlbkaipiaa.Ev
set_option linter.all false
open Go
theorem prim_EE : ∀ f p, EE.prim f = some p → f = 87 ∧ p = sortP := fun f p h => by
  have h : (if f = 87 then some sortP else none) = some p := h
  split at h
  · rename_i e; exact ⟨e, (Option.some.inj h).symm⟩
  · cases h
end Go.Proofs.Ytdplmjlbkaipiaa.Ev

/- slices.Compact and the program's 'risen'. -/
namespace Go.Proofs.Ytdplmjlbkaipiaa.Ev
set_option linter.all false
open Go
set_option maxRecDepth 4000

def Cmp (H : Hp) (v : Value) (l : List Int) (r : Value) (H' : Hp) : Prop := SlI H' r l ∧ (∀ N, OwnS N v → OwnS N r) ∧ (∀ j, j ∉ idsOf v → H'[j]? = H[j]?) ∧ H'.length = H.length ∧ ∀ j ∈ idsOf r, j ∈ idsOf v

theorem Cmp.same {H : Hp} {v : Value} {l : List Int} (h : SlI H v l) : Cmp H v l v H := ⟨h, fun _ h => h, fun _ _ => rfl, rfl, fun _ h => h⟩

theorem cmpL_two {l : List Int} (h : l.length < 2) : cmpL l = l := by
  match l, h with
  | [], _ => rfl
  | [a], _ => rfl

theorem f88 {m : Md} {H : Hp} {v : Value} {l : List Int} (hl : SlI H v l) (hle : l.length ≤ 1048576) (hw : ∀ id ∈ idsOf v, m.wr id = true) : Fun EE m 88 [v] H fun r H' => Cmp H v (cmpL l) r H' := by
  refine fun_f rfl rfl k88 (by simp [c88]) ?_
  simp only [go_sem, ↓reduceIte, Nat.reduceEqDiff, reduceCtorEq, Nat.reduceAdd, Nat.reduceLeDiff, Nat.reduceMul, c88, hl.len]
  refine brT.intro (fun q1 => ?_) (fun q1 => ?_) <;> simp only [go_sem, ↓reduceIte, Nat.reduceEqDiff, reduceCtorEq, Nat.reduceAdd, Nat.reduceLeDiff, Nat.reduceMul]
  · have : l.length < 2 := by have := of_decide_eq_true q1; omega
    rw [cmpL_two this]
    exact Cmp.same hl
  have hl2 : ¬ l.length < 2 := by have := of_decide_eq_false q1; omega
  refine go_for (l.length - 1) (fun i s => s.H = H ∧ s.ρ 0 = .val v ∧ s.ρ 3 = .val (.int .i64 ((i + 1 : Nat) : Int)) ∧ cmpL (l.take (i + 1)) = l.take (i + 1))
    (fun s => s.H = H ∧ s.ρ 0 = .val v ∧ cmpL l = l) ?_ ?_ ?_
  · refine ⟨rfl, by simp [upd, ini], by simp [upd], ?_⟩
    exact cmpL_two (by simp; omega)
  · rintro i s hi ⟨hH, h0, h3, hc⟩
    simp only [go_sem, ↓reduceIte, Nat.reduceEqDiff, reduceCtorEq, Nat.reduceAdd, Nat.reduceLeDiff, Nat.reduceMul, h0, h3, hl.len]
    refine brT.intro (fun c1 => ?_) (fun c1 => ?_) <;> simp only [go_sem, ↓reduceIte, Nat.reduceEqDiff, reduceCtorEq, Nat.reduceAdd, Nat.reduceLeDiff, Nat.reduceMul, h0, h3]
    · have hi2 : i + 1 < l.length := by have := of_decide_eq_true c1; omega
      obtain ⟨id, p, o, ho, hr, hia⟩ := hl.int (List.getElem?_eq_getElem hi2)
      obtain ⟨id', p', o', ho', hr', hia'⟩ := hl.int (List.getElem?_eq_getElem (show i < l.length by omega))
      have hsub : IntKind.i64.wrap (((i + 1 : Nat) : Int) - 1) = (i : Int) := by rw [wrap64 _ (by omega) (by omega)]; omega
      refine go_draw ?_
      simp only [go_sem, ↓reduceIte, Nat.reduceEqDiff, reduceCtorEq, Nat.reduceAdd, Nat.reduceLeDiff, Nat.reduceMul, h0, h3, hia, hH, ho, hr, hsub, hia', ho', hr']
      refine ⟨by rfl, ?_⟩
      refine brT.intro (fun c2 => ?_) (fun c2 => ?_) <;> simp only [go_sem, ↓reduceIte, Nat.reduceEqDiff, reduceCtorEq, Nat.reduceAdd, Nat.reduceLeDiff, Nat.reduceMul, h0, h3, hH]
      · have heq : l[i + 1] = l[i] := of_decide_eq_true c2
        obtain ⟨v4, d1, d2, d3⟩ := hl.drop (i := i + 1) (by omega)
        rw [d1]
        rotate_left
        · rfl
        · rfl
        simp only [go_sem, ↓reduceIte, Nat.reduceEqDiff, reduceCtorEq, Nat.reduceAdd, Nat.reduceLeDiff, Nat.reduceMul, h0, h3, hH]
        have hcl : cmpL (l.take (i + 2)) = l.take (i + 1) := by
          rw [cmpL_take hi2, if_pos heq.symm, hc]
        refine go_for (l.length - (i + 1) - 1) (fun j s' => s'.ρ 0 = .val v ∧ s'.ρ 4 = .val v4 ∧ s'.ρ 5 = .val (.int .i64 ((j + 1 : Nat) : Int)) ∧ ∃ (k : Nat) (L : List Int), s'.ρ 3 = .val (.int .i64 k) ∧ SlI s'.H v L ∧ L.length = l.length ∧ k ≤ i + 1 + j ∧ L.take k = cmpL (l.take (i + 1 + j + 1)) ∧ L.drop (i + 1 + j) = l.drop (i + 1 + j) ∧ (∀ j, j ∉ idsOf v → s'.H[j]? = H[j]?) ∧ s'.H.length = H.length)
          (fun s' => s'.ρ 0 = .val v ∧ ∃ (k : Nat) (L : List Int), s'.ρ 3 = .val (.int .i64 k) ∧ SlI s'.H v L ∧ L.length = l.length ∧ k ≤ l.length ∧ L.take k = cmpL l ∧ (∀ j, j ∉ idsOf v → s'.H[j]? = H[j]?) ∧ s'.H.length = H.length) ?_ ?_ ?_
        · exact ⟨by simp [upd, h0], by simp [upd], by simp [upd], i + 1, l, by simp [upd, h3], hl, rfl, by omega, by rw [show i + 1 + 0 + 1 = i + 2 by omega, hcl], rfl, fun _ _ => rfl, rfl⟩
        · rintro j s' hj ⟨k0, k4, k5, k, L, k3, ks, kL, kk, kt, kd, kf, kn⟩
          have k4s := d3 _ _ kL ks
          have hlen4 : (L.drop (i + 1)).length = l.length - (i + 1) := by simp [kL]
          simp only [go_sem, ↓reduceIte, Nat.reduceEqDiff, reduceCtorEq, Nat.reduceAdd, Nat.reduceLeDiff, Nat.reduceMul, k0, k3, k4, k5, k4s.len, hlen4]
          refine brT.intro (fun e1 => ?_) (fun e1 => ?_) <;> simp only [go_sem, ↓reduceIte, Nat.reduceEqDiff, reduceCtorEq, Nat.reduceAdd, Nat.reduceLeDiff, Nat.reduceMul, k0, k3, k4, k5]
          · have hj2 : i + 1 + j + 1 < l.length := by have := of_decide_eq_true e1; omega
            have g1 : (L.drop (i + 1))[j + 1]? = some l[i + 1 + j + 1] := by
              have := congrArg (fun (x : List Int) => x[1]?) kd
              simp only [List.getElem?_drop] at this
              rw [List.getElem?_drop, show i + 1 + (j + 1) = i + 1 + j + 1 by omega, this, List.getElem?_eq_getElem hj2]
            have g0 : (L.drop (i + 1))[j]? = some l[i + 1 + j] := by
              have := congrArg (fun (x : List Int) => x[0]?) kd
              simp only [List.getElem?_drop, Nat.add_zero] at this
              rw [List.getElem?_drop, this, List.getElem?_eq_getElem (by omega)]
            obtain ⟨ida, pa, oa, hoa, hra, hiaa⟩ := k4s.int g1
            obtain ⟨idb, pb, ob, hob, hrb, hiab⟩ := k4s.int g0
            have hsub : IntKind.i64.wrap (((j + 1 : Nat) : Int) - 1) = (j : Int) := by rw [wrap64 _ (by omega) (by omega)]; omega
            have hct := cmpL_take (l := l) (k := i + 1 + j) hj2
            have kd' : L.drop (i + 1 + (j + 1)) = l.drop (i + 1 + (j + 1)) := by
              have := congrArg (List.drop 1) kd
              simpa [List.drop_drop, Nat.add_assoc] using this
            refine go_draw ?_
            simp only [go_sem, ↓reduceIte, Nat.reduceEqDiff, reduceCtorEq, Nat.reduceAdd, Nat.reduceLeDiff, Nat.reduceMul, k0, k3, k4, k5, hiaa, hoa, hra, hsub, hiab, hob, hrb]
            refine ⟨by rfl, ?_⟩
            refine brT.intro (fun e2 => ?_) (fun e2 => ?_) <;> simp only [go_sem, ↓reduceIte, Nat.reduceEqDiff, reduceCtorEq, Nat.reduceAdd, Nat.reduceLeDiff, Nat.reduceMul, k0, k3, k4, k5, wrap64 (((j + 1 : Nat) : Int) + 1) (by omega) (by omega)]
            · have heq2 : l[i + 1 + j] = l[i + 1 + j + 1] := (of_decide_eq_true e2).symm
              exact ⟨by omega, by simp, k, L, rfl, ks, kL, by omega, by rw [kt, show i + 1 + (j + 1) + 1 = i + 1 + j + 2 by omega, hct, if_pos heq2], kd', kf, kn⟩
            · have hne2 : ¬ l[i + 1 + j] = l[i + 1 + j + 1] := fun e => of_decide_eq_false e2 e.symm
              obtain ⟨idc, pc, oc, hoc, hpc, hidc, hiac, hst⟩ := ks.store (i := k) (by omega)
              have hwid := hw idc (by rw [hidc]; simp)
              simp only [go_sem, ↓reduceIte, Nat.reduceEqDiff, reduceCtorEq, Nat.reduceAdd, Nat.reduceLeDiff, Nat.reduceMul, k0, k3, k4, k5, hiaa, hoa, hra, hiac, hoc, hpc, hwid, wrap64 (((j + 1 : Nat) : Int) + 1) (by omega) (by omega), wrap64 ((k : Int) + 1) (by omega) (by omega)]
              refine ⟨by omega, by simp, k + 1, L.set k l[i + 1 + j + 1], by simp, hst _ _ rfl rfl, by simp [kL], by omega, ?_, ?_, fun q hq => ?_, by simp [kn]⟩
              · rw [show i + 1 + (j + 1) + 1 = i + 1 + j + 2 by omega, hct, if_neg hne2, ← kt]
                refine List.ext_getElem? fun q => ?_
                have hkl : (L.take k).length = k := by rw [List.length_take]; omega
                rcases Nat.lt_trichotomy q k with hq | hq | hq
                · rw [List.getElem?_take, if_pos (by omega), List.getElem?_set_ne (by omega), List.getElem?_append_left (by omega), List.getElem?_take, if_pos hq]
                · subst hq
                  rw [List.getElem?_take, if_pos (by omega), List.getElem?_set_self (by omega), List.getElem?_append_right (by omega), hkl, Nat.sub_self]
                  rfl
                · rw [List.getElem?_take, if_neg (by omega), List.getElem?_eq_none (by simp; omega)]
              · rw [List.drop_set_of_lt (by omega)]
                exact kd'
              · rw [List.getElem?_set_ne]
                · exact kf q hq
                · rw [hidc] at hq
                  simp at hq
                  omega
          · have hj2 : ¬ i + 1 + j + 1 < l.length := by have := of_decide_eq_false e1; omega
            exact ⟨k, L, rfl, ks, kL, by omega, by rw [kt, List.take_of_length_le (by omega)], kf, kn⟩
        · rintro s' ⟨k0, k, L, k3, ks, kL, kk, kt, kf, kn⟩
          obtain ⟨v3, v2, H2, g1, g2, g3, g4, g5, g6, g7, g8⟩ := ks.cut (m := m) (i := k) (by omega) (zero := [.int .i64 0]) rfl rfl hw
          simp only [go_sem, ↓reduceIte, Nat.reduceEqDiff, reduceCtorEq, Nat.reduceAdd, Nat.reduceLeDiff, Nat.reduceMul, k0, k3]
          rw [g1]
          rotate_left
          · rfl
          · rfl
          simp only [go_sem, ↓reduceIte, Nat.reduceEqDiff, reduceCtorEq, Nat.reduceAdd, Nat.reduceLeDiff, Nat.reduceMul, k0, k3]
          rw [g2]
          rotate_left
          · rfl
          · rfl
          simp only [go_sem, ↓reduceIte, Nat.reduceEqDiff, reduceCtorEq, Nat.reduceAdd, Nat.reduceLeDiff, Nat.reduceMul, k0, k3]
          rw [g3]
          rotate_left
          · rfl
          · rfl
          simp only [go_sem, ↓reduceIte, Nat.reduceEqDiff, reduceCtorEq, Nat.reduceAdd, Nat.reduceLeDiff, Nat.reduceMul, k0, k3]
          rw [kt] at g4
          exact ⟨g4, g5, fun q hq => (g6 q hq).trans (kf q hq), g7.trans kn, g8⟩
      · have hne : ¬ l[i] = l[i + 1] := fun e => of_decide_eq_false c2 e.symm
        simp only [go_sem, ↓reduceIte, Nat.reduceEqDiff, reduceCtorEq, Nat.reduceAdd, Nat.reduceLeDiff, Nat.reduceMul, h0, h3, hH, wrap64 (((i + 1 : Nat) : Int) + 1) (by omega) (by omega)]
        refine ⟨by omega, by simp, ?_⟩
        rw [show i + 1 + 1 = i + 2 by omega, cmpL_take hi2, if_neg hne, hc, List.take_succ_eq_append_getElem hi2]
    · have hi2 : ¬ i + 1 < l.length := by have := of_decide_eq_false c1; omega
      rw [List.take_of_length_le (by omega)] at hc
      exact ⟨hH, hc⟩
  · rintro s ⟨hH, h0, hc⟩
    simp only [go_sem, ↓reduceIte, Nat.reduceEqDiff, reduceCtorEq, Nat.reduceAdd, Nat.reduceLeDiff, Nat.reduceMul, h0, hH]
    rw [hc]
    exact Cmp.same hl

/-- 'risen': sorted, each once. -/
theorem f66 {m : Md} {H : Hp} {v : Value} {l : List Int} (hl : SlI H v l) (hle : l.length ≤ 1048576) (hw : ∀ id ∈ idsOf v, m.wr id = true) : Fun EE m 66 [v] H fun r H' => Cmp H v (rsn l) r H' := by
  refine fun_f rfl rfl k66 (by simp [c66]) ?_
  simp only [go_sem, ↓reduceIte, Nat.reduceEqDiff, reduceCtorEq, Nat.reduceAdd, Nat.reduceLeDiff, Nat.reduceMul, c66]
  refine callT_now (Sl.sort (F := 87) rfl hl hle hw) fun r1 H1 ⟨e1, s1, f1, n1⟩ => ?_
  subst e1
  simp only [go_sem, ↓reduceIte, Nat.reduceEqDiff, reduceCtorEq, Nat.reduceAdd, Nat.reduceLeDiff, Nat.reduceMul]
  refine callT_now (f88 s1 (by rw [srt_len]; exact hle) hw) fun r2 H2 ⟨s2, o2, f2, n2, i2⟩ => ?_
  simp only [go_sem, ↓reduceIte, Nat.reduceEqDiff, reduceCtorEq, Nat.reduceAdd, Nat.reduceLeDiff, Nat.reduceMul]
  exact ⟨s2, o2, fun j hj => (f2 j hj).trans (f1 j hj), n2.trans n1, i2⟩
end Go.Proofs.Ytdplmjlbkaipiaa.Ev

/- The law Trusts. -/
namespace Go.Proofs.Ytdplmjlbkaipiaa.Ev
set_option linter.all false
open Go
set_option maxRecDepth 4000

theorem pre_keep {H H1 H2 : Hp} (h : H <+: H1) (hk : ∀ j, j < H.length → H2[j]? = H1[j]?) (hl : H1.length ≤ H2.length) : H <+: H2 := by
  rw [List.prefix_iff_eq_take]
  refine List.ext_getElem? fun j => ?_
  rw [List.getElem?_take]
  split
  · rename_i hj
    rw [hk j hj, pre_get h hj]
  · rw [List.getElem?_eq_none (by omega)]

theorem FreshS.cmp {H H1 H2 : Hp} {v r : Value} {g k : List Int} (h : FreshS eI 1 H v H1 g) (hc : Cmp H1 v k r H2) : FreshS eI 1 H r H2 k := by
  obtain ⟨p1, s1, o1⟩ := h
  obtain ⟨s2, o2, f2, n2, _⟩ := hc
  exact ⟨pre_keep p1 (fun j hj => f2 j (own_notin o1 hj)) (by omega), s2, o2 _ o1⟩

end Go.Proofs.Ytdplmjlbkaipiaa.Ev

/- Groups below groups: the program's way. -/
namespace Go.Proofs.Ytdplmjlbkaipiaa.Ev
set_option linter.all false
open Go
set_option maxRecDepth 4000

end Go.Proofs.Ytdplmjlbkaipiaa.Ev

/- Groups below groups: the reference's way. -/
namespace Go.Proofs.Ytdplmjlbkaipiaa.Ev
set_option linter.all false
open Go
set_option maxRecDepth 4000

/-- Below, in so many steps at most behind the first. -/
def Lv (g : List Group) (i : Int) (n : Nat) (x : Int) : Prop := ∃ y, PG g (i, y) ∧ Rn (PG g) n y x
theorem Lv.bel {g : List Group} {i x : Int} {n : Nat} (h : Lv g i n x) : Bel g i x := ⟨n, h⟩
theorem Bel.step {g : List Group} {i x y : Int} (h : Bel g i x) (hp : PG g (x, y)) : Bel g i y := by
  obtain ⟨n, z, h1, h2⟩ := h
  exact ⟨n + 1, z, h1, .inr ⟨x, h2, hp⟩⟩

end Go.Proofs.Ytdplmjlbkaipiaa.Ev

/- Loops: the program's and the reference's. -/
namespace Go.Proofs.Ytdplmjlbkaipiaa.Ev
set_option linter.all false
open Go
set_option maxRecDepth 4000

end Go.Proofs.Ytdplmjlbkaipiaa.Ev

/- The law Loops. -/
namespace Go.Proofs.Ytdplmjlbkaipiaa.Ev
set_option linter.all false
open Go
set_option maxRecDepth 4000

/-- Rows as long as before. -/
def SL (H H' : Hp) : Prop := H'.length = H.length ∧ ∀ (j : Nat) (o : List Value), H[j]? = some o → ∃ o' : List Value, H'[j]? = some o' ∧ o'.length = o.length
theorem SL.refl (H : Hp) : SL H H := ⟨rfl, fun j o h => ⟨o, h, rfl⟩⟩
theorem SL.trans {H H' H'' : Hp} (h : SL H H') (k : SL H' H'') : SL H H'' := ⟨k.1.trans h.1, fun j o ho => by
  obtain ⟨o', h1, h2⟩ := h.2 j o ho
  obtain ⟨o'', k1, k2⟩ := k.2 j o' h1
  exact ⟨o'', k1, k2.trans h2⟩⟩
theorem SL.set {H : Hp} {id : Nat} {o o' : List Value} (ho : H[id]? = some o) (hl : o'.length = o.length) : SL H (H.set id o') := ⟨by simp, fun j p hp => by
  by_cases e : id = j
  · subst e
    rw [ho] at hp
    cases hp
    exact ⟨o', List.getElem?_set_self (List.getElem?_eq_some_iff.1 ho).1, hl⟩
  · exact ⟨p, by rw [List.getElem?_set_ne e]; exact hp, rfl⟩⟩
theorem Sl.sl {α : Type} {esz : Nat} {H H' : Hp} {v : Value} {l : List α} (h : Sl (fun _ _ => True) esz H v l) (hs : SL H H') : Sl (fun (_ : α) _ => True) esz H' v l := by
  rcases h with ⟨rfl, rfl⟩ | ⟨id, off, cap, o, rfl, ho, hc, hn, hrm, hr⟩
  · exact .inl ⟨rfl, rfl⟩
  · obtain ⟨o', h1, h2⟩ := hs.2 id o ho
    exact .inr ⟨id, off, cap, o', rfl, h1, by rw [h2]; exact hc, hn, hrm, fun _ _ _ => trivial⟩

abbrev SlZ (H : Hp) (v : Value) (l : List Int) : Prop := Sl (fun _ _ => True) 1 H v l

theorem f27b {m : Md} {H : Hp} {v : Value} {l : List Int} {k : Int} (hl : SlZ H v l) (hk : 0 ≤ k) (hk2 : k + l.length < 9223372036854775807) (hw : ∀ id ∈ idsOf v, m.wr id = true) :
    Fun EE m 27 [v, .int .i64 k] H fun r H' => r = .int .i64 (k + l.length) ∧ (∀ j, j ∉ idsOf v → H'[j]? = H[j]?) ∧ SL H H' := by
  refine fun_f rfl rfl k27 (by simp [c27]) ?_
  have hroom := hl.room
  simp only [go_sem, ↓reduceIte, Nat.reduceEqDiff, reduceCtorEq, Nat.reduceAdd, Nat.reduceLeDiff, Nat.reduceMul, c27]
  refine go_for l.length (fun i s => s.ρ 0 = .val v ∧ s.ρ 1 = .val (.int .i64 (k + i)) ∧ s.ρ 5 = .val (.int .i64 i) ∧ SlZ s.H v l ∧ (∀ j, j ∉ idsOf v → s.H[j]? = H[j]?) ∧ SL H s.H)
    (fun s => s.ρ 1 = .val (.int .i64 (k + l.length)) ∧ (∀ j, j ∉ idsOf v → s.H[j]? = H[j]?) ∧ SL H s.H) ⟨rfl, by simp [upd, ini], rfl, hl, fun _ _ => rfl, SL.refl _⟩ ?_ ?_
  · rintro i s hi ⟨h0, h1, h5, hs, hf, hsl⟩
    simp only [go_sem, ↓reduceIte, Nat.reduceEqDiff, reduceCtorEq, Nat.reduceAdd, Nat.reduceLeDiff, Nat.reduceMul, h0, h1, h5, hs.len]
    refine brT.intro (fun h3 => ?_) (fun h3 => ?_) <;> simp only [go_sem, ↓reduceIte, Nat.reduceEqDiff, reduceCtorEq, Nat.reduceAdd, Nat.reduceLeDiff, Nat.reduceMul, h0, h1, h5]
    · have h4 : i < l.length := by simpa using h3
      obtain ⟨id, p, o, ho, hp, hid, hia, _⟩ := hs.store (i := i) h4
      have hwid := hw id (by rw [hid]; simp)
      simp only [go_sem, ↓reduceIte, Nat.reduceEqDiff, reduceCtorEq, Nat.reduceAdd, Nat.reduceLeDiff, Nat.reduceMul, h0, h1, h5, hia, ho, hp, hwid, wrap64 ((i : Int) + 1) (by omega) (by omega), wrap64 (k + (i : Int) + 1) (by omega) (by omega)]
      have hst : SL s.H (s.H.set id (spl o p [.int .i64 (k + i)])) := SL.set ho (spl_length _ _ _)
      refine ⟨h4, by simp [Int.add_assoc], by simp, hs.sl hst, fun j hj => ?_, hsl.trans hst⟩
      rw [List.getElem?_set_ne, hf j hj]
      rw [hid] at hj
      simp at hj
      omega
    · have h4 : ¬ i < l.length := by simpa using h3
      have hil : i = l.length := by omega
      subst hil
      exact ⟨rfl, hf, hsl⟩
  · rintro s ⟨h1, hf, hsl⟩
    simp only [go_sem, ↓reduceIte, Nat.reduceEqDiff, reduceCtorEq, Nat.reduceAdd, Nat.reduceLeDiff, Nat.reduceMul, h1]
    exact ⟨hf, hsl⟩

/-- Groups whose numbers lie in later rows. -/
def RGm (x M : Nat) (H : Hp) (g : Group) (cs : List Value) : Prop := ∃ u s, cs = [u, s] ∧ SlZ H u g.1 ∧ SlZ H s g.2 ∧ (∀ j ∈ idsOf u, x < j ∧ j < M) ∧ ∀ j ∈ idsOf s, x < j ∧ j < M

end Go.Proofs.Ytdplmjlbkaipiaa.Ev

/- Copies of groups, and where their numbers lie. -/
namespace Go.Proofs.Ytdplmjlbkaipiaa.Ev
set_option linter.all false
open Go
set_option maxRecDepth 4000

/-- Groups whose numbers lie in later rows. -/
def RGk (x : Nat) (H : Hp) (g : Group) (cs : List Value) : Prop := ∃ u s, cs = [u, s] ∧ SlI H u g.1 ∧ SlI H s g.2 ∧ (∀ j ∈ idsOf u, x < j) ∧ ∀ j ∈ idsOf s, x < j
theorem RGk.rg {x : Nat} {H : Hp} {g : Group} {cs : List Value} (h : RGk x H g cs) : RG H g cs := by
  obtain ⟨u, s, e, a, b, _⟩ := h
  exact ⟨u, s, e, a, b⟩
theorem RGk.m {x : Nat} {H : Hp} {g : Group} {cs : List Value} (h : RGk x H g cs) : RGm x H.length H g cs := by
  obtain ⟨u, s, e, a, b, c, d⟩ := h
  exact ⟨u, s, e, a.blank, b.blank, fun j hj => ⟨c j hj, a.ids j hj⟩, fun j hj => ⟨d j hj, b.ids j hj⟩⟩
theorem RGk.pre {x : Nat} {H H' : Hp} {g : Group} {cs : List Value} (h : RGk x H g cs) (hp : H <+: H') : RGk x H' g cs := by
  obtain ⟨u, s, e, a, b, c⟩ := h
  exact ⟨u, s, e, a.pre hp, b.pre hp, c⟩
theorem RGk.set {x : Nat} {H : Hp} {r : List Value} {g : Group} {cs : List Value} (h : RGk x H g cs) : RGk x (H.set x r) g cs := by
  obtain ⟨u, s, e, a, b, c, d⟩ := h
  exact ⟨u, s, e, a.other (fun h => by have := c _ h; omega), b.other (fun h => by have := d _ h; omega), c, d⟩

structure FreshM (H : Hp) (v : Value) (H' : Hp) (l : List Group) : Prop where
  pre : H <+: H'
  sl : Sl (RGk H.length H') 2 H' v l
  own : OwnS H.length v
  le : ∀ j ∈ idsOf v, j ≤ H.length
theorem FreshM.g {H H' : Hp} {v : Value} {l : List Group} (h : FreshM H v H' l) : SlG H' v l := h.sl.frame (fun _ _ _ h => h.rg) fun _ _ _ _ _ _ => rfl
theorem FreshM.m {H H' : Hp} {v : Value} {l : List Group} (h : FreshM H v H' l) : Sl (RGm H.length H'.length H') 2 H' v l := h.sl.frame (fun _ _ _ h => h.m) fun _ _ _ _ _ _ => rfl

theorem f40m {m : Md} {H : Hp} {v : Value} {l : List Group} (hl : SlG H v l) (hle : l.length ≤ 1048576) (hg : ∀ g ∈ l, g.1.length ≤ 1048576 ∧ g.2.length ≤ 1048576) (hw : Wr m H) (hnr : m.nr = false) : Fun EE m 40 [v] H fun r H' => FreshM H r H' l := by
  refine fun_f rfl rfl k40 (by simp [c40]) ?_
  obtain ⟨g1, g2⟩ := make_sl (R := RGk H.length (H ++ [zeros l.length [.slice none 0 0, .slice none 0 0]])) (esz := 2) (H := H) (z := ([], [])) (zero := [.slice none 0 0, .slice none 0 0]) (n := l.length) (bytes := 48) rfl
    ⟨_, _, rfl, .inl ⟨rfl, rfl⟩, .inl ⟨rfl, rfl⟩, by simp [idsOf], by simp [idsOf]⟩ (by unfold room; omega) (by unfold room; omega)
  simp only [go_sem, ↓reduceIte, Nat.reduceEqDiff, reduceCtorEq, Nat.reduceAdd, Nat.reduceLeDiff, Nat.reduceMul, c40, hl.len, g2]
  refine go_for l.length (fun i s => H <+: s.H ∧ s.ρ 0 = .val v ∧ s.ρ 3 = .val (.slice (some ⟨H.length, 0, some 2⟩) l.length (l.length * 2)) ∧ s.ρ 4 = .val (.int .i64 i) ∧ H.length < s.H.length ∧ Sl (RGk H.length s.H) 2 s.H (.slice (some ⟨H.length, 0, some 2⟩) l.length (l.length * 2)) (l.take i ++ List.replicate (l.length - i) ([], [])))
    (fun s => H <+: s.H ∧ s.ρ 3 = .val (.slice (some ⟨H.length, 0, some 2⟩) l.length (l.length * 2)) ∧ Sl (RGk H.length s.H) 2 s.H (.slice (some ⟨H.length, 0, some 2⟩) l.length (l.length * 2)) l) (by simpa [upd, ini] using g1) ?_ ?_
  · rintro i s hi ⟨hH, h0, h3, h4, hlt, hs⟩
    have hl' := hl.preG hH
    simp only [go_sem, ↓reduceIte, Nat.reduceEqDiff, reduceCtorEq, Nat.reduceAdd, Nat.reduceLeDiff, Nat.reduceMul, h0, h3, h4, hl'.len]
    refine brT.intro (fun h1 => ?_) (fun h1 => ?_) <;> simp only [go_sem, ↓reduceIte, Nat.reduceEqDiff, reduceCtorEq, Nat.reduceAdd, Nat.reduceLeDiff, Nat.reduceMul, h0, h3, h4]
    · have h2 : i < l.length := by simpa using h1
      have hgi := List.getElem?_eq_getElem h2
      obtain ⟨id, p, o, u, z, ho, q0, q1, hr, hp, hu, hz, hia⟩ := hl'.group hgi
      have hgl := hg _ (List.getElem_mem h2)
      have hw' : Wr m s.H := hw.pre hH
      simp only [go_sem, ↓reduceIte, Nat.reduceEqDiff, reduceCtorEq, Nat.reduceAdd, Nat.reduceLeDiff, Nat.reduceMul, h0, h3, h4, hia, ho, hr, hp]
      refine callT_to (fun m' h => f73 hu hz hgl.1 hgl.2 h) rfl hw' fun r1 H1 ⟨u', z', e1, p1, s1, s2, o1, o2⟩ => ?_
      subst e1
      have hs1 : Sl (RGk H.length H1) 2 H1 (.slice (some ⟨H.length, 0, some 2⟩) l.length (l.length * 2)) (l.take i ++ List.replicate (l.length - i) ([], [])) := (hs.pre p1).frame (fun _ _ _ h => h.pre p1) fun _ _ _ _ _ _ => rfl
      obtain ⟨id2, p2, o3, ho2, hp2, hid, hia2, hst⟩ := hs1.store (i := i) (by simp; omega)
      have hid2 : id2 = H.length := by simpa [idsOf] using hid.symm
      subst hid2
      have hwid : m.wr H.length = true := hw H.length (by omega)
      simp only [go_sem, ↓reduceIte, Nat.reduceEqDiff, reduceCtorEq, Nat.reduceAdd, Nat.reduceLeDiff, Nat.reduceMul, h0, h3, h4, hia2, ho2, hp2, hwid, hnr, wrap64 ((i : Int) + 1) (by omega) (by omega), Bool.false_eq_true, false_implies]
      refine ⟨h2, pre_set (hH.trans p1) (by omega), by simp, ?_, ?_⟩
      · have := p1.length_le
        omega
      have := hst l[i] [u', z'] rfl ⟨u', z', rfl, s1, s2, fun j hj => by have := own_ge o1 j hj; omega, fun j hj => by have := own_ge o2 j hj; omega⟩
      rw [List.take_succ_eq_append_getElem h2, List.append_assoc, List.singleton_append]
      rw [List.set_append_right _ _ (by simp; omega), show i - (l.take i).length = 0 by simp; omega, show l.length - i = (l.length - (i + 1)) + 1 by omega, List.replicate_succ, List.set_cons_zero] at this
      exact this.frame (fun _ _ _ h => h.set) fun _ _ _ _ _ _ => rfl
    · have h2 : ¬ i < l.length := by simpa using h1
      rw [List.take_of_length_le (by omega), show l.length - i = 0 by omega] at hs
      simp only [List.replicate_zero, List.append_nil] at hs
      exact ⟨hH, hs⟩
  · rintro s ⟨hH, h3, hs⟩
    simp only [go_sem, ↓reduceIte, Nat.reduceEqDiff, reduceCtorEq, Nat.reduceAdd, Nat.reduceLeDiff, Nat.reduceMul, h3]
    exact ⟨hH, hs, .inr ⟨_, _, _, _, rfl, Nat.le_refl _⟩, fun j hj => by simp [idsOf] at hj; omega⟩


theorem RGm.pre {x M : Nat} {H H' : Hp} {g : Group} {cs : List Value} (h : RGm x M H g cs) (hp : H <+: H') : RGm x M H' g cs := by
  obtain ⟨u, s, e, a, b, c⟩ := h
  exact ⟨u, s, e, a.pre hp, b.pre hp, c⟩
theorem Sl.preM {x M : Nat} {H H' : Hp} {v : Value} {l : List Group} (h : Sl (RGm x M H) 2 H v l) (hp : H <+: H') : Sl (RGm x M H') 2 H' v l := (h.pre hp).frame (fun _ _ _ h => h.pre hp) fun _ _ _ _ _ _ => rfl

end Go.Proofs.Ytdplmjlbkaipiaa.Ev

/- Code of the program's functions, as the small machine has it: written by mkcode.py. -/
namespace Go.Proofs.Ytdplmjlbkaipiaa.Ev
set_option linter.all false
open Go
end Go.Proofs.Ytdplmjlbkaipiaa.Ev

/- Who belongs to a group: plain, and the reference's way. -/
namespace Go.Proofs.Ytdplmjlbkaipiaa.Ev
set_option linter.all false
open Go
set_option maxRecDepth 4000

/-- A row of numbers behind another one. -/
theorem Sl.joinI {m : Md} {N : Nat} {H : Hp} {v u : Value} {l l2 : List Int} (h : SlI H v l) (h2 : SlI H u l2) (ho : OwnS N v) (hN : N ≤ H.length) (hw : ∀ id, N ≤ id → m.wr id = true) (hb : l.length + l2.length ≤ 1048576) :
    ∃ v' H', (∀ (s : St) (x y : X), s.H = H → exv s.ρ x = some v → ex s.ρ y = .val u → appK m s 1 8 x y = some (.val v', { s with H := H' })) ∧ SlI H' v' (l ++ l2) ∧ OwnS N v' ∧
      (∀ j, j < H.length → j ∉ idsOf v → H'[j]? = H[j]?) ∧ H.length ≤ H'.length ∧ (∀ j ∈ idsOf v', j ∈ idsOf v ∨ H.length ≤ j) ∧ ∀ H0 : Hp, H0.length ≤ N → H0 <+: H → H0 <+: H' := by
  obtain ⟨cs, hsrc, hcs, hel⟩ := h2.src
  by_cases h0 : l2.length = 0
  · have : l2 = [] := List.eq_nil_of_length_eq_zero h0
    subst this
    refine ⟨v, H, fun s x y hH hx hy => ?_, by simpa using h, ho, fun _ _ _ => rfl, Nat.le_refl _, fun j hj => .inl hj, fun _ _ h => h⟩
    subst hH
    unfold appK
    rw [hx, hy, hsrc]
    rcases h with ⟨rfl, _⟩ | ⟨_, _, _, _, rfl, _⟩ <;> rfl
  · have hall : cs.all scal = true := by
      rw [List.all_eq_true]
      intro c hc
      obtain ⟨j, hj⟩ := List.getElem?_of_mem hc
      have hjl : j < l2.length := by have := (List.getElem?_eq_some_iff.1 hj).1; omega
      have := hel j _ (List.getElem?_eq_getElem hjl)
      unfold En eI at this
      have h3 := getElem?_of_take this (j := 0) (by omega)
      rw [Nat.mul_one, Nat.add_zero, hj] at h3
      have h4 : c = .int .i64 l2[j] := by simpa using h3
      subst h4
      rfl
    obtain ⟨v', H', h1, h2'⟩ := h.app (m := m) (n := 1) (bytes := 8) (l2 := l2) (cs := cs) ho hN hw (fun _ => hall) (by omega) hcs hel (by unfold Ev.room; omega) (by unfold Ev.room; omega)
    exact ⟨v', H', fun s x y hH hx hy => h1 s x y hH hx (by rw [hy]; exact hsrc), h2'⟩

end Go.Proofs.Ytdplmjlbkaipiaa.Ev

/- Who belongs to a group: the program's way; the laws UsersOf and GroupsOf. -/
namespace Go.Proofs.Ytdplmjlbkaipiaa.Ev
set_option linter.all false
open Go
set_option maxRecDepth 4000

end Go.Proofs.Ytdplmjlbkaipiaa.Ev

/- Code of the program's functions, as the small machine has it: written by mkcode.py. -/
namespace Go.Proofs.Ytdplmjlbkaipiaa.Ev
set_option linter.all false
open Go
def c13 : CF := ⟨92, (.seq (.reg false [⟨(some 4), .none, (.mov (.c (.bool false))), 0, []⟩]) (.seq (.reg false [⟨(some 5), .none, (.mov (.c (.int .i64 1048576))), 0, []⟩]) (.seq (.reg false [⟨(some 14), .none, (.mov (.t 0)), 0, []⟩, ⟨(some 15), .none, (.mov (.t 5)), 1, []⟩, ⟨(some 16), .none, (.call 38 [(.t 14), (.t 15)]), 2, []⟩, ⟨(some 5), .none, (.mov (.t 16)), 3, []⟩]) (.seq (.seq (.reg false [⟨(some 17), .none, (.mov (.t 5)), 0, []⟩, ⟨(some 18), .none, (.bin .lss (.t 17) (.c (.int .i64 0))), 1, []⟩]) (.cond (.t 18) (.seq (.reg false [⟨(some 4), .none, (.mov (.c (.bool true))), 0, []⟩]) .ret) .skip)) (.seq (.reg false [⟨(some 19), .none, (.mov (.t 1)), 0, []⟩, ⟨(some 20), .none, (.mov (.t 5)), 1, []⟩, ⟨(some 21), .none, (.call 38 [(.t 19), (.t 20)]), 2, []⟩, ⟨(some 5), .none, (.mov (.t 21)), 3, []⟩]) (.seq (.seq (.reg false [⟨(some 22), .none, (.mov (.t 5)), 0, []⟩, ⟨(some 23), .none, (.bin .lss (.t 22) (.c (.int .i64 0))), 1, []⟩]) (.cond (.t 23) (.seq (.reg false [⟨(some 4), .none, (.mov (.c (.bool true))), 0, []⟩]) .ret) .skip)) (.seq (.reg false [⟨(some 24), .none, (.mov (.t 0)), 0, []⟩, ⟨(some 25), .none, (.call 40 [(.t 24)]), 1, []⟩, ⟨(some 26), .none, (.mov (.t 1)), 2, []⟩, ⟨(some 27), .none, (.call 40 [(.t 26)]), 3, []⟩, ⟨(some 28), .none, (.call 50 [(.t 25), (.t 27)]), 4, []⟩, ⟨(some 6), .none, (.mov (.t 28)), 5, []⟩]) (.seq (.reg false [⟨(some 29), .none, (.mov (.t 0)), 0, []⟩, ⟨(some 30), .none, (.call 40 [(.t 29)]), 1, []⟩, ⟨(some 7), .none, (.mov (.t 30)), 2, []⟩]) (.seq (.reg false [⟨(some 31), .none, (.mov (.t 1)), 0, []⟩, ⟨(some 32), .none, (.call 40 [(.t 31)]), 1, []⟩, ⟨(some 8), .none, (.mov (.t 32)), 2, []⟩]) (.seq (.reg false [⟨(some 33), .none, (.mov (.t 7)), 0, []⟩, ⟨(some 34), .none, (.mov (.t 8)), 1, []⟩, ⟨(some 35), .none, (.call 51 [(.t 33), (.t 34)]), 2, []⟩, ⟨(some 9), .none, (.mov (.t 35)), 3, []⟩]) (.seq (.seq (.reg false [⟨(some 36), .none, (.mov (.t 9)), 0, []⟩, ⟨(some 37), .none, (.mov (.t 6)), 1, []⟩, ⟨(some 38), .none, (.call 42 [(.t 36), (.t 37)]), 2, []⟩, ⟨(some 39), .none, (.un .not (.t 38)), 3, []⟩]) (.cond (.t 39) (.seq (.reg false [⟨(some 4), .none, (.mov (.c (.bool false))), 0, []⟩]) .ret) .skip)) (.seq (.seq (.reg false [⟨(some 40), .none, (.mov (.t 7)), 0, []⟩, ⟨(some 41), .none, (.mov (.t 0)), 1, []⟩, ⟨(some 42), .none, (.call 40 [(.t 41)]), 2, []⟩, ⟨(some 43), .none, (.call 42 [(.t 40), (.t 42)]), 3, []⟩, ⟨(some 44), .none, (.un .not (.t 43)), 4, []⟩]) (.cond (.t 44) (.seq (.reg false [⟨(some 4), .none, (.mov (.c (.bool false))), 0, []⟩]) .ret) .skip)) (.seq (.seq (.reg false [⟨(some 45), .none, (.mov (.t 8)), 0, []⟩, ⟨(some 46), .none, (.mov (.t 1)), 1, []⟩, ⟨(some 47), .none, (.call 40 [(.t 46)]), 2, []⟩, ⟨(some 48), .none, (.call 42 [(.t 45), (.t 47)]), 3, []⟩, ⟨(some 49), .none, (.un .not (.t 48)), 4, []⟩]) (.cond (.t 49) (.seq (.reg false [⟨(some 4), .none, (.mov (.c (.bool false))), 0, []⟩]) .ret) .skip)) (.seq (.reg false [⟨(some 10), .none, (.mov (.c (.int .i64 1))), 0, []⟩]) (.seq (.reg false [⟨(some 50), .none, (.mov (.t 7)), 0, []⟩, ⟨(some 51), .none, (.mov (.t 10)), 1, []⟩, ⟨(some 52), .none, (.call 45 [(.t 50), (.t 51)]), 2, []⟩, ⟨(some 10), .none, (.mov (.t 52)), 3, []⟩]) (.seq (.reg false [⟨(some 53), .none, (.mov (.t 8)), 0, []⟩, ⟨(some 54), .none, (.mov (.t 10)), 1, []⟩, ⟨(some 55), .none, (.call 45 [(.t 53), (.t 54)]), 2, []⟩, ⟨(some 10), .none, (.mov (.t 55)), 3, []⟩]) (.seq (.seq (.reg false [⟨(some 56), .none, (.mov (.t 10)), 0, []⟩, ⟨(some 57), .none, (.bin .lss (.t 56) (.c (.int .i64 0))), 1, []⟩, ⟨(some 58), .none, (.mov (.t 57)), 2, []⟩, ⟨(some 59), (.some (58, false)), (.mov (.t 9)), 3, []⟩, ⟨(some 60), (.some (58, false)), (.mov (.t 6)), 4, []⟩, ⟨(some 61), (.some (58, false)), (.call 42 [(.t 59), (.t 60)]), 5, []⟩, ⟨(some 62), (.some (58, false)), (.un .not (.t 61)), 6, []⟩, ⟨(some 63), .none, (.pick (.t 58) (.c (.bool true)) (.t 62)), 7, []⟩]) (.cond (.t 63) (.seq (.reg false [⟨(some 4), .none, (.mov (.c (.bool false))), 0, []⟩]) .ret) .skip)) (.seq (.reg false [⟨(some 11), .none, (.mov (.c (.int .i64 1))), 0, []⟩]) (.seq (.reg false [⟨(some 64), .none, (.mov (.t 9)), 0, []⟩, ⟨(some 65), .none, (.mov (.t 11)), 1, []⟩, ⟨(some 66), .none, (.call 45 [(.t 64), (.t 65)]), 2, []⟩, ⟨(some 11), .none, (.mov (.t 66)), 3, []⟩]) (.seq (.reg false [⟨(some 12), .none, (.mov (.c (.int .i64 1))), 0, []⟩]) (.seq (.reg false [⟨(some 67), .none, (.mov (.t 9)), 0, []⟩, ⟨(some 68), .none, (.mov (.t 12)), 1, []⟩, ⟨(some 69), .none, (.call 52 [(.t 67), (.t 68)]), 2, []⟩, ⟨(some 12), .none, (.mov (.t 69)), 3, []⟩]) (.seq (.seq (.reg false [⟨(some 70), .none, (.mov (.t 12)), 0, []⟩, ⟨(some 71), .none, (.bin .lss (.t 70) (.c (.int .i64 0))), 1, []⟩]) (.cond (.t 71) (.seq (.reg false [⟨(some 4), .none, (.mov (.c (.bool false))), 0, []⟩]) .ret) .skip)) (.seq (.seq (.reg false [⟨(some 72), .none, (.mov (.t 12)), 0, []⟩, ⟨(some 73), .none, (.mov (.t 11)), 1, []⟩, ⟨(some 74), .none, (.bin .neq (.t 72) (.t 73)), 2, []⟩]) (.cond (.t 74) (.seq (.reg false [⟨(some 4), .none, (.mov (.c (.bool false))), 0, []⟩]) .ret) .skip)) (.seq (.reg false [⟨(some 75), .none, (.mov (.t 0)), 0, []⟩, ⟨(some 76), .none, (.call 40 [(.t 75)]), 1, []⟩, ⟨(some 77), .none, (.mov (.t 1)), 2, []⟩, ⟨(some 78), .none, (.call 40 [(.t 77)]), 3, []⟩, ⟨(some 79), .none, (.call 51 [(.t 76), (.t 78)]), 4, []⟩, ⟨(some 13), .none, (.mov (.t 79)), 5, []⟩]) (.seq (.seq (.reg false [⟨(some 80), .none, (.mov (.t 13)), 0, []⟩, ⟨(some 81), .none, (.mov (.t 6)), 1, []⟩, ⟨(some 82), .none, (.call 42 [(.t 80), (.t 81)]), 2, []⟩, ⟨(some 83), .none, (.un .not (.t 82)), 3, []⟩]) (.cond (.t 83) (.seq (.reg false [⟨(some 4), .none, (.mov (.c (.bool false))), 0, []⟩]) .ret) .skip)) (.seq (.reg false [⟨(some 12), .none, (.mov (.c (.int .i64 1))), 0, []⟩]) (.seq (.reg false [⟨(some 84), .none, (.mov (.t 9)), 0, []⟩, ⟨(some 85), .none, (.mov (.t 12)), 1, []⟩, ⟨(some 86), .none, (.call 52 [(.t 84), (.t 85)]), 2, []⟩, ⟨(some 12), .none, (.mov (.t 86)), 3, []⟩]) (.seq (.seq (.reg false [⟨(some 87), .none, (.mov (.t 12)), 0, []⟩, ⟨(some 88), .none, (.bin .lss (.t 87) (.c (.int .i64 0))), 1, []⟩]) (.cond (.t 88) (.seq (.reg false [⟨(some 4), .none, (.mov (.c (.bool false))), 0, []⟩]) .ret) .skip)) (.seq (.seq (.reg false [⟨(some 89), .none, (.mov (.t 12)), 0, []⟩, ⟨(some 90), .none, (.mov (.t 11)), 1, []⟩, ⟨(some 91), .none, (.bin .neq (.t 89) (.t 90)), 2, []⟩]) (.cond (.t 91) (.seq (.reg false [⟨(some 4), .none, (.mov (.c (.bool false))), 0, []⟩]) .ret) .skip)) (.seq (.reg false [⟨(some 4), .none, (.mov (.c (.bool true))), 0, []⟩]) .ret)))))))))))))))))))))))))))))), [(.t 4)]⟩
theorem k13 : EE.fns 13 = some c13 := by kernel_rfl
def c50 : CF := ⟨78, (.seq (.reg false [⟨(some 4), .none, (.mov (.c (.slice .none 0 0))), 0, []⟩]) (.seq (.reg false [⟨(some 8), .none, (.mkO 0 2 [(.slice .none 0 0), (.slice .none 0 0)] []), 0, []⟩, ⟨(some 5), .none, (.mov (.t 8)), 1, []⟩]) (.seq (.seq (.reg false [⟨(some 9), .none, (.mov (.t 0)), 0, []⟩, ⟨(some 10), .none, (.call 39 [(.t 9)]), 1, []⟩, ⟨(some 11), .none, (.un .not (.t 10)), 2, []⟩, ⟨(some 12), .none, (.mov (.t 11)), 3, []⟩, ⟨(some 13), (.some (12, false)), (.mov (.t 1)), 4, []⟩, ⟨(some 14), (.some (12, false)), (.call 39 [(.t 13)]), 5, []⟩, ⟨(some 15), (.some (12, false)), (.un .not (.t 14)), 6, []⟩, ⟨(some 16), .none, (.pick (.t 12) (.c (.bool true)) (.t 15)), 7, []⟩]) (.cond (.t 16) (.seq (.reg false [⟨(some 17), .none, (.mov (.t 5)), 0, []⟩, ⟨(some 4), .none, (.mov (.t 17)), 1, []⟩]) .ret) .skip)) (.seq (.seq (.reg false [⟨(some 6), .none, (.mov (.c (.int .i64 0))), 0, []⟩]) (.block 0 (.loop (.seq (.seq (.reg false [⟨(some 18), .none, (.mov (.t 6)), 0, []⟩, ⟨(some 19), .none, (.mov (.t 0)), 1, []⟩, ⟨(some 20), .none, (.lenS (.t 19)), 2, []⟩, ⟨(some 21), .none, (.bin .lss (.t 18) (.t 20)), 3, []⟩, ⟨(some 22), .none, (.mov (.t 21)), 4, []⟩, ⟨(some 23), (.some (22, false)), (.mov (.t 6)), 5, []⟩, ⟨(some 24), (.some (22, false)), (.mov (.t 1)), 6, []⟩, ⟨(some 25), (.some (22, false)), (.lenS (.t 24)), 7, []⟩, ⟨(some 26), (.some (22, false)), (.bin .lss (.t 23) (.t 25)), 8, []⟩, ⟨(some 27), .none, (.pick (.t 22) (.c (.bool true)) (.t 26)), 9, []⟩]) (.cond (.t 27) .skip (.exit 0))) (.seq (.block 1 (.seq (.reg false [⟨(some 30), .none, (.build [(.slice .none 0 0), (.slice .none 0 0)] []), 0, []⟩, ⟨(some 7), .none, (.newV [(.slice .none 0 0), (.slice .none 0 0)]), 1, []⟩, ⟨.none, .none, (.store 2 (.t 7) (.t 30)), 2, []⟩]) (.seq (.seq (.reg false [⟨(some 31), .none, (.mov (.t 6)), 0, []⟩, ⟨(some 32), .none, (.mov (.t 0)), 1, []⟩, ⟨(some 33), .none, (.lenS (.t 32)), 2, []⟩, ⟨(some 34), .none, (.bin .lss (.t 31) (.t 33)), 3, []⟩]) (.cond (.t 34) (.reg true [⟨(some 35), .none, (.fadr 0 (.t 7)), 0, []⟩, ⟨(some 36), .none, (.load 1 false (.t 35)), 1, [0]⟩, ⟨(some 37), .none, (.mov (.t 0)), 2, []⟩, ⟨(some 38), .none, (.mov (.t 6)), 3, []⟩, ⟨(some 39), .none, (.iadr 2 (.t 37) (.t 38)), 4, [2, 3]⟩, ⟨(some 40), .none, (.fadr 0 (.t 39)), 5, [4, 2, 3]⟩, ⟨(some 41), .none, (.load 1 false (.t 40)), 6, [5, 4, 2, 3]⟩, ⟨(some 42), .none, (.call 82 [(.t 36), (.t 41)]), 7, [1, 0, 6, 5, 4, 2, 3]⟩, ⟨(some 43), .none, (.fadr 1 (.t 7)), 8, []⟩, ⟨(some 44), .none, (.load 1 false (.t 43)), 9, [8]⟩, ⟨(some 45), .none, (.mov (.t 0)), 10, []⟩, ⟨(some 46), .none, (.mov (.t 6)), 11, []⟩, ⟨(some 47), .none, (.iadr 2 (.t 45) (.t 46)), 12, [10, 11]⟩, ⟨(some 48), .none, (.fadr 1 (.t 47)), 13, [12, 10, 11]⟩, ⟨(some 49), .none, (.load 1 false (.t 48)), 14, [13, 12, 10, 11]⟩, ⟨(some 50), .none, (.call 82 [(.t 44), (.t 49)]), 15, [9, 8, 14, 13, 12, 10, 11, 7, 1, 0, 6, 5, 4, 2, 3]⟩, ⟨(some 51), .none, (.build [(.slice .none 0 0), (.slice .none 0 0)] [(0, (1, (.t 42))), (1, (1, (.t 50)))]), 16, [7, 1, 0, 6, 5, 4, 2, 3, 15, 9, 8, 14, 13, 12, 10, 11]⟩, ⟨.none, .none, (.store 2 (.t 7) (.t 51)), 17, [16, 7, 1, 0, 6, 5, 4, 2, 3, 15, 9, 8, 14, 13, 12, 10, 11]⟩]) .skip)) (.seq (.seq (.reg false [⟨(some 52), .none, (.mov (.t 6)), 0, []⟩, ⟨(some 53), .none, (.mov (.t 1)), 1, []⟩, ⟨(some 54), .none, (.lenS (.t 53)), 2, []⟩, ⟨(some 55), .none, (.bin .lss (.t 52) (.t 54)), 3, []⟩]) (.cond (.t 55) (.reg true [⟨(some 56), .none, (.fadr 0 (.t 7)), 0, []⟩, ⟨(some 57), .none, (.load 1 false (.t 56)), 1, [0]⟩, ⟨(some 58), .none, (.mov (.t 1)), 2, []⟩, ⟨(some 59), .none, (.mov (.t 6)), 3, []⟩, ⟨(some 60), .none, (.iadr 2 (.t 58) (.t 59)), 4, [2, 3]⟩, ⟨(some 61), .none, (.fadr 0 (.t 60)), 5, [4, 2, 3]⟩, ⟨(some 62), .none, (.load 1 false (.t 61)), 6, [5, 4, 2, 3]⟩, ⟨(some 63), .none, (.call 82 [(.t 57), (.t 62)]), 7, [1, 0, 6, 5, 4, 2, 3]⟩, ⟨(some 64), .none, (.fadr 1 (.t 7)), 8, []⟩, ⟨(some 65), .none, (.load 1 false (.t 64)), 9, [8]⟩, ⟨(some 66), .none, (.mov (.t 1)), 10, []⟩, ⟨(some 67), .none, (.mov (.t 6)), 11, []⟩, ⟨(some 68), .none, (.iadr 2 (.t 66) (.t 67)), 12, [10, 11]⟩, ⟨(some 69), .none, (.fadr 1 (.t 68)), 13, [12, 10, 11]⟩, ⟨(some 70), .none, (.load 1 false (.t 69)), 14, [13, 12, 10, 11]⟩, ⟨(some 71), .none, (.call 82 [(.t 65), (.t 70)]), 15, [9, 8, 14, 13, 12, 10, 11, 7, 1, 0, 6, 5, 4, 2, 3]⟩, ⟨(some 72), .none, (.build [(.slice .none 0 0), (.slice .none 0 0)] [(0, (1, (.t 63))), (1, (1, (.t 71)))]), 16, [7, 1, 0, 6, 5, 4, 2, 3, 15, 9, 8, 14, 13, 12, 10, 11]⟩, ⟨.none, .none, (.store 2 (.t 7) (.t 72)), 17, [16, 7, 1, 0, 6, 5, 4, 2, 3, 15, 9, 8, 14, 13, 12, 10, 11]⟩]) .skip)) (.reg false [⟨(some 73), .none, (.mov (.t 5)), 0, []⟩, ⟨(some 74), .none, (.load 2 true (.t 7)), 1, []⟩, ⟨(some 75), .none, (.mkV 1 2 [(.slice .none 0 0), (.slice .none 0 0)] [(0, (.t 74))]), 2, []⟩, ⟨(some 76), .none, (.app 2 48 (.t 73) (.t 75)), 3, []⟩, ⟨(some 5), .none, (.mov (.t 76)), 4, []⟩]))))) (.reg false [⟨(some 28), .none, (.mov (.t 6)), 0, []⟩, ⟨(some 29), .none, (.bin .add (.t 28) (.c (.int .i64 1))), 1, []⟩, ⟨(some 6), .none, (.mov (.t 29)), 2, []⟩])))))) (.seq (.reg false [⟨(some 77), .none, (.mov (.t 5)), 0, []⟩, ⟨(some 4), .none, (.mov (.t 77)), 1, []⟩]) .ret))))), [(.t 4)]⟩
theorem k50 : EE.fns 50 = some c50 := by kernel_rfl
def c51 : CF := ⟨72, (.seq (.reg false [⟨(some 4), .none, (.mov (.c (.slice .none 0 0))), 0, []⟩]) (.seq (.reg false [⟨(some 10), .none, (.mkO 0 2 [(.slice .none 0 0), (.slice .none 0 0)] []), 0, []⟩, ⟨(some 5), .none, (.mov (.t 10)), 1, []⟩]) (.seq (.seq (.reg false [⟨(some 11), .none, (.mov (.t 0)), 0, []⟩, ⟨(some 12), .none, (.call 41 [(.t 11)]), 1, []⟩, ⟨(some 13), .none, (.un .not (.t 12)), 2, []⟩, ⟨(some 14), .none, (.mov (.t 13)), 3, []⟩, ⟨(some 15), (.some (14, false)), (.mov (.t 1)), 4, []⟩, ⟨(some 16), (.some (14, false)), (.call 41 [(.t 15)]), 5, []⟩, ⟨(some 17), (.some (14, false)), (.un .not (.t 16)), 6, []⟩, ⟨(some 18), .none, (.pick (.t 14) (.c (.bool true)) (.t 17)), 7, []⟩]) (.cond (.t 18) (.seq (.reg false [⟨(some 19), .none, (.mov (.t 5)), 0, []⟩, ⟨(some 4), .none, (.mov (.t 19)), 1, []⟩]) .ret) .skip)) (.seq (.seq (.reg false [⟨(some 20), .none, (.mov (.t 0)), 0, []⟩, ⟨(some 21), .none, (.lenS (.t 20)), 1, []⟩, ⟨(some 22), .none, (.mov (.t 1)), 2, []⟩, ⟨(some 23), .none, (.lenS (.t 22)), 3, []⟩, ⟨(some 24), .none, (.mx (.t 21) (.t 23)), 4, []⟩, ⟨(some 25), .none, (.mov (.c (.int .i64 0))), 5, []⟩]) (.block 0 (.loop (.seq (.reg false [⟨(some 26), .none, (.bin .lss (.t 25) (.t 24)), 0, []⟩]) (.seq (.cond (.t 26) .skip (.exit 0)) (.seq (.block 1 (.seq (.reg false [⟨(some 27), .none, (.mov (.t 25)), 0, []⟩, ⟨(some 6), .none, (.mov (.t 27)), 1, []⟩]) (.seq (.reg false [⟨(some 28), .none, (.build [(.slice .none 0 0), (.slice .none 0 0)] []), 0, []⟩, ⟨(some 7), .none, (.newV [(.slice .none 0 0), (.slice .none 0 0)]), 1, []⟩, ⟨.none, .none, (.store 2 (.t 7) (.t 28)), 2, []⟩]) (.seq (.seq (.reg false [⟨(some 29), .none, (.mov (.t 0)), 0, []⟩, ⟨(some 30), .none, (.mov (.t 1)), 1, []⟩, ⟨(some 31), .none, (.mkO 2 1 [(.slice .none 0 0)] [(0, (.t 29)), (1, (.t 30))]), 2, []⟩, ⟨(some 32), .none, (.lenS (.t 31)), 3, []⟩, ⟨(some 33), .none, (.mov (.c (.int .i64 0))), 4, []⟩]) (.block 2 (.loop (.seq (.reg false [⟨(some 34), .none, (.bin .lss (.t 33) (.t 32)), 0, []⟩]) (.seq (.cond (.t 34) .skip (.exit 2)) (.seq (.block 3 (.seq (.reg false [⟨(some 35), .none, (.iadr 1 (.t 31) (.t 33)), 0, []⟩, ⟨(some 36), .none, (.load 1 false (.t 35)), 1, []⟩, ⟨(some 9), .none, (.mov (.t 36)), 2, []⟩]) (.seq (.reg false [⟨(some 37), .none, (.mov (.t 6)), 0, []⟩, ⟨(some 38), .none, (.mov (.t 9)), 1, []⟩, ⟨(some 39), .none, (.lenS (.t 38)), 2, []⟩, ⟨(some 40), .none, (.bin .lss (.t 37) (.t 39)), 3, []⟩]) (.cond (.t 40) (.seq (.reg true [⟨(some 41), .none, (.fadr 0 (.t 7)), 0, []⟩, ⟨(some 42), .none, (.load 1 false (.t 41)), 1, [0]⟩, ⟨(some 43), .none, (.mov (.t 9)), 2, []⟩, ⟨(some 44), .none, (.mov (.t 6)), 3, []⟩, ⟨(some 45), .none, (.iadr 2 (.t 43) (.t 44)), 4, [2, 3]⟩, ⟨(some 46), .none, (.fadr 0 (.t 45)), 5, [4, 2, 3]⟩, ⟨(some 47), .none, (.load 1 false (.t 46)), 6, [5, 4, 2, 3]⟩, ⟨(some 48), .none, (.app 1 8 (.t 42) (.t 47)), 7, [1, 0, 6, 5, 4, 2, 3]⟩, ⟨(some 49), .none, (.fadr 0 (.t 7)), 8, [0, 1, 2, 3, 4, 5, 6, 7]⟩, ⟨.none, .none, (.store 1 (.t 49) (.t 48)), 9, [8, 0, 1, 2, 3, 4, 5, 6, 7]⟩]) (.reg true [⟨(some 50), .none, (.fadr 1 (.t 7)), 0, []⟩, ⟨(some 51), .none, (.load 1 false (.t 50)), 1, [0]⟩, ⟨(some 52), .none, (.mov (.t 9)), 2, []⟩, ⟨(some 53), .none, (.mov (.t 6)), 3, []⟩, ⟨(some 54), .none, (.iadr 2 (.t 52) (.t 53)), 4, [2, 3]⟩, ⟨(some 55), .none, (.fadr 1 (.t 54)), 5, [4, 2, 3]⟩, ⟨(some 56), .none, (.load 1 false (.t 55)), 6, [5, 4, 2, 3]⟩, ⟨(some 57), .none, (.app 1 8 (.t 51) (.t 56)), 7, [1, 0, 6, 5, 4, 2, 3]⟩, ⟨(some 58), .none, (.fadr 1 (.t 7)), 8, [0, 1, 2, 3, 4, 5, 6, 7]⟩, ⟨.none, .none, (.store 1 (.t 58) (.t 57)), 9, [8, 0, 1, 2, 3, 4, 5, 6, 7]⟩])) .skip)))) (.reg false [⟨(some 59), .none, (.bin .add (.t 33) (.c (.int .i64 1))), 0, []⟩, ⟨(some 33), .none, (.mov (.t 59)), 1, []⟩]))))))) (.reg true [⟨(some 60), .none, (.mov (.t 5)), 0, []⟩, ⟨(some 61), .none, (.fadr 0 (.t 7)), 1, []⟩, ⟨(some 62), .none, (.load 1 false (.t 61)), 2, [1]⟩, ⟨(some 63), .none, (.call 66 [(.t 62)]), 3, [2, 1]⟩, ⟨(some 64), .none, (.fadr 1 (.t 7)), 4, []⟩, ⟨(some 65), .none, (.load 1 false (.t 64)), 5, [4]⟩, ⟨(some 66), .none, (.call 66 [(.t 65)]), 6, [5, 4, 3, 2, 1]⟩, ⟨(some 67), .none, (.build [(.slice .none 0 0), (.slice .none 0 0)] [(0, (1, (.t 63))), (1, (1, (.t 66)))]), 7, [3, 2, 1, 6, 5, 4]⟩, ⟨(some 68), .none, (.mkV 1 2 [(.slice .none 0 0), (.slice .none 0 0)] [(0, (.t 67))]), 8, [7, 3, 2, 1, 6, 5, 4]⟩, ⟨(some 69), .none, (.app 2 48 (.t 60) (.t 68)), 9, [0, 8, 7, 3, 2, 1, 6, 5, 4]⟩, ⟨(some 5), .none, (.mov (.t 69)), 10, [9, 0, 8, 7, 3, 2, 1, 6, 5, 4]⟩]))))) (.reg false [⟨(some 70), .none, (.bin .add (.t 25) (.c (.int .i64 1))), 0, []⟩, ⟨(some 25), .none, (.mov (.t 70)), 1, []⟩]))))))) (.seq (.reg false [⟨(some 71), .none, (.mov (.t 5)), 0, []⟩, ⟨(some 4), .none, (.mov (.t 71)), 1, []⟩]) .ret))))), [(.t 4)]⟩
theorem k51 : EE.fns 51 = some c51 := by kernel_rfl
def c52 : CF := ⟨31, (.seq (.reg false [⟨(some 4), .none, (.mov (.c (.int .i64 0))), 0, []⟩]) (.seq (.seq (.reg false [⟨(some 5), .none, (.mov (.c (.int .i64 0))), 0, []⟩]) (.block 0 (.loop (.seq (.seq (.reg false [⟨(some 6), .none, (.mov (.t 5)), 0, []⟩, ⟨(some 7), .none, (.mov (.t 0)), 1, []⟩, ⟨(some 8), .none, (.lenS (.t 7)), 2, []⟩, ⟨(some 9), .none, (.bin .lss (.t 6) (.t 8)), 3, []⟩]) (.cond (.t 9) .skip (.exit 0))) (.seq (.block 1 (.seq (.reg false [⟨(some 12), .none, (.mov (.t 0)), 0, []⟩, ⟨(some 13), .none, (.mov (.t 5)), 1, []⟩, ⟨(some 14), .none, (.iadr 2 (.t 12) (.t 13)), 2, []⟩, ⟨(some 15), .none, (.fadr 0 (.t 14)), 3, []⟩, ⟨(some 16), .none, (.load 1 false (.t 15)), 4, []⟩, ⟨(some 17), .none, (.mov (.t 1)), 5, []⟩, ⟨(some 18), .none, (.call 28 [(.t 16), (.t 17)]), 6, []⟩, ⟨(some 1), .none, (.mov (.t 18)), 7, []⟩]) (.seq (.seq (.reg false [⟨(some 19), .none, (.mov (.t 1)), 0, []⟩, ⟨(some 20), .none, (.bin .lss (.t 19) (.c (.int .i64 0))), 1, []⟩]) (.cond (.t 20) (.seq (.reg false [⟨(some 4), .none, (.mov (.c (.int .i64 (-1)))), 0, []⟩]) .ret) .skip)) (.seq (.reg false [⟨(some 21), .none, (.mov (.t 0)), 0, []⟩, ⟨(some 22), .none, (.mov (.t 5)), 1, []⟩, ⟨(some 23), .none, (.iadr 2 (.t 21) (.t 22)), 2, []⟩, ⟨(some 24), .none, (.fadr 1 (.t 23)), 3, []⟩, ⟨(some 25), .none, (.load 1 false (.t 24)), 4, []⟩, ⟨(some 26), .none, (.mov (.t 1)), 5, []⟩, ⟨(some 27), .none, (.call 28 [(.t 25), (.t 26)]), 6, []⟩, ⟨(some 1), .none, (.mov (.t 27)), 7, []⟩]) (.seq (.reg false [⟨(some 28), .none, (.mov (.t 1)), 0, []⟩, ⟨(some 29), .none, (.bin .lss (.t 28) (.c (.int .i64 0))), 1, []⟩]) (.cond (.t 29) (.seq (.reg false [⟨(some 4), .none, (.mov (.c (.int .i64 (-1)))), 0, []⟩]) .ret) .skip)))))) (.reg false [⟨(some 10), .none, (.mov (.t 5)), 0, []⟩, ⟨(some 11), .none, (.bin .add (.t 10) (.c (.int .i64 1))), 1, []⟩, ⟨(some 5), .none, (.mov (.t 11)), 2, []⟩])))))) (.seq (.reg false [⟨(some 30), .none, (.mov (.t 1)), 0, []⟩, ⟨(some 4), .none, (.mov (.t 30)), 1, []⟩]) .ret))), [(.t 4)]⟩
theorem k52 : EE.fns 52 = some c52 := by kernel_rfl
def c82 : CF := ⟨30, (.seq (.reg false [⟨(some 4), .none, (.mov (.c (.slice .none 0 0))), 0, []⟩]) (.seq (.reg false [⟨(some 7), .none, (.mkO 0 1 [(.int .i64 0)] []), 0, []⟩, ⟨(some 8), .none, (.mov (.t 0)), 1, []⟩, ⟨(some 9), .none, (.app 1 8 (.t 7) (.t 8)), 2, []⟩, ⟨(some 5), .none, (.mov (.t 9)), 3, []⟩]) (.seq (.seq (.reg false [⟨(some 6), .none, (.mov (.c (.int .i64 0))), 0, []⟩]) (.block 0 (.loop (.seq (.seq (.reg false [⟨(some 10), .none, (.mov (.t 6)), 0, []⟩, ⟨(some 11), .none, (.mov (.t 1)), 1, []⟩, ⟨(some 12), .none, (.lenS (.t 11)), 2, []⟩, ⟨(some 13), .none, (.bin .lss (.t 10) (.t 12)), 3, []⟩]) (.cond (.t 13) .skip (.exit 0))) (.seq (.block 1 (.seq (.reg false [⟨(some 16), .none, (.mov (.t 5)), 0, []⟩, ⟨(some 17), .none, (.mov (.t 1)), 1, []⟩, ⟨(some 18), .none, (.mov (.t 6)), 2, []⟩, ⟨(some 19), .none, (.iadr 1 (.t 17) (.t 18)), 3, []⟩, ⟨(some 20), .none, (.load 1 false (.t 19)), 4, []⟩, ⟨(some 21), .none, (.call 61 [(.t 16), (.t 20)]), 5, []⟩, ⟨(some 22), .none, (.un .not (.t 21)), 6, []⟩]) (.cond (.t 22) (.reg false [⟨(some 23), .none, (.mov (.t 5)), 0, []⟩, ⟨(some 24), .none, (.mov (.t 1)), 1, []⟩, ⟨(some 25), .none, (.mov (.t 6)), 2, []⟩, ⟨(some 26), .none, (.iadr 1 (.t 24) (.t 25)), 3, []⟩, ⟨(some 27), .none, (.load 1 false (.t 26)), 4, []⟩, ⟨(some 28), .none, (.call 93 [(.t 23), (.t 27)]), 5, []⟩, ⟨(some 5), .none, (.mov (.t 28)), 6, []⟩]) .skip))) (.reg false [⟨(some 14), .none, (.mov (.t 6)), 0, []⟩, ⟨(some 15), .none, (.bin .add (.t 14) (.c (.int .i64 1))), 1, []⟩, ⟨(some 6), .none, (.mov (.t 15)), 2, []⟩])))))) (.seq (.reg false [⟨(some 29), .none, (.mov (.t 5)), 0, []⟩, ⟨(some 4), .none, (.mov (.t 29)), 1, []⟩]) .ret)))), [(.t 4)]⟩
theorem k82 : EE.fns 82 = some c82 := by kernel_rfl
def c93 : CF := ⟨47, (.seq (.reg false [⟨(some 4), .none, (.mov (.c (.slice .none 0 0))), 0, []⟩]) (.seq (.seq (.reg false [⟨(some 8), .none, (.mov (.t 0)), 0, []⟩, ⟨(some 9), .none, (.mov (.t 1)), 1, []⟩, ⟨(some 10), .none, (.call 61 [(.t 8), (.t 9)]), 2, []⟩]) (.cond (.t 10) (.seq (.reg false [⟨(some 11), .none, (.mov (.t 0)), 0, []⟩, ⟨(some 4), .none, (.mov (.t 11)), 1, []⟩]) .ret) .skip)) (.seq (.reg false [⟨(some 12), .none, (.mkO 0 1 [(.int .i64 0)] []), 0, []⟩, ⟨(some 5), .none, (.mov (.t 12)), 1, []⟩]) (.seq (.reg false [⟨(some 6), .none, (.mov (.c (.bool false))), 0, []⟩]) (.seq (.seq (.reg false [⟨(some 7), .none, (.mov (.c (.int .i64 0))), 0, []⟩]) (.block 0 (.loop (.seq (.seq (.reg false [⟨(some 13), .none, (.mov (.t 7)), 0, []⟩, ⟨(some 14), .none, (.mov (.t 0)), 1, []⟩, ⟨(some 15), .none, (.lenS (.t 14)), 2, []⟩, ⟨(some 16), .none, (.bin .lss (.t 13) (.t 15)), 3, []⟩]) (.cond (.t 16) .skip (.exit 0))) (.seq (.block 1 (.seq (.seq (.reg false [⟨(some 19), .none, (.mov (.t 6)), 0, []⟩, ⟨(some 20), .none, (.un .not (.t 19)), 1, []⟩, ⟨(some 21), .none, (.mov (.t 20)), 2, []⟩, ⟨(some 22), (.some (21, true)), (.mov (.t 1)), 3, []⟩, ⟨(some 23), (.some (21, true)), (.mov (.t 0)), 4, []⟩, ⟨(some 24), (.some (21, true)), (.mov (.t 7)), 5, []⟩, ⟨(some 25), (.some (21, true)), (.iadr 1 (.t 23) (.t 24)), 6, []⟩, ⟨(some 26), (.some (21, true)), (.load 1 false (.t 25)), 7, []⟩, ⟨(some 27), (.some (21, true)), (.bin .lss (.t 22) (.t 26)), 8, []⟩, ⟨(some 28), .none, (.pick (.t 21) (.t 27) (.c (.bool false))), 9, []⟩]) (.cond (.t 28) (.seq (.reg false [⟨(some 29), .none, (.mov (.t 5)), 0, []⟩, ⟨(some 30), .none, (.mov (.t 1)), 1, []⟩, ⟨(some 31), .none, (.mkV 1 1 [(.int .i64 0)] [(0, (.t 30))]), 2, []⟩, ⟨(some 32), .none, (.app 1 8 (.t 29) (.t 31)), 3, []⟩, ⟨(some 5), .none, (.mov (.t 32)), 4, []⟩]) (.reg false [⟨(some 6), .none, (.mov (.c (.bool true))), 0, []⟩])) .skip)) (.reg false [⟨(some 33), .none, (.mov (.t 5)), 0, []⟩, ⟨(some 34), .none, (.mov (.t 0)), 1, []⟩, ⟨(some 35), .none, (.mov (.t 7)), 2, []⟩, ⟨(some 36), .none, (.iadr 1 (.t 34) (.t 35)), 3, []⟩, ⟨(some 37), .none, (.load 1 false (.t 36)), 4, []⟩, ⟨(some 38), .none, (.mkV 1 1 [(.int .i64 0)] [(0, (.t 37))]), 5, []⟩, ⟨(some 39), .none, (.app 1 8 (.t 33) (.t 38)), 6, []⟩, ⟨(some 5), .none, (.mov (.t 39)), 7, []⟩]))) (.reg false [⟨(some 17), .none, (.mov (.t 7)), 0, []⟩, ⟨(some 18), .none, (.bin .add (.t 17) (.c (.int .i64 1))), 1, []⟩, ⟨(some 7), .none, (.mov (.t 18)), 2, []⟩])))))) (.seq (.seq (.reg false [⟨(some 40), .none, (.mov (.t 6)), 0, []⟩, ⟨(some 41), .none, (.un .not (.t 40)), 1, []⟩]) (.cond (.t 41) (.reg false [⟨(some 42), .none, (.mov (.t 5)), 0, []⟩, ⟨(some 43), .none, (.mov (.t 1)), 1, []⟩, ⟨(some 44), .none, (.mkV 1 1 [(.int .i64 0)] [(0, (.t 43))]), 2, []⟩, ⟨(some 45), .none, (.app 1 8 (.t 42) (.t 44)), 3, []⟩, ⟨(some 5), .none, (.mov (.t 45)), 4, []⟩]) .skip)) (.seq (.reg false [⟨(some 46), .none, (.mov (.t 5)), 0, []⟩, ⟨(some 4), .none, (.mov (.t 46)), 1, []⟩]) .ret))))))), [(.t 4)]⟩
theorem k93 : EE.fns 93 = some c93 := by kernel_rfl
end Go.Proofs.Ytdplmjlbkaipiaa.Ev

/- The reference's way to put two rising rows of numbers together. -/
namespace Go.Proofs.Ytdplmjlbkaipiaa.Ev
set_option linter.all false
open Go
set_option maxRecDepth 4000

theorem OwnS.mono {N N' : Nat} {v : Value} (h : OwnS N v) (hn : N' ≤ N) : OwnS N' v := by
  rcases h with h | ⟨id, e, ln, cap, h, hid⟩
  · exact .inl h
  · exact .inr ⟨id, e, ln, cap, h, by omega⟩
theorem rsn_self {l : List Int} (h : Asc l) : rsn l = l := (rsn_asc l).eq h fun x => rsn_mem l x
theorem rsn_to {l k : List Int} (h : Asc k) (hm : ∀ x, x ∈ k ↔ x ∈ l) : k = rsn l := h.eq (rsn_asc l) fun x => (hm x).trans (rsn_mem l x).symm

theorem asc_drop_lt {l : List Int} (h : Asc l) {i : Nat} (hi : i < l.length) : (∀ y ∈ l.take i, y < l[i]) ∧ ∀ z ∈ l.drop (i + 1), l[i] < z := by
  have h := List.pairwise_iff_getElem.1 h
  refine ⟨fun y hy => ?_, fun z hz => ?_⟩
  · obtain ⟨j, hj, rfl⟩ := List.mem_iff_getElem.1 hy
    rw [List.length_take] at hj
    rw [List.getElem_take]
    exact h _ _ _ _ (by omega)
  · obtain ⟨j, hj, rfl⟩ := List.mem_iff_getElem.1 hz
    rw [List.length_drop] at hj
    rw [List.getElem_drop]
    exact h _ _ _ _ (by omega)

/-- What stands written while a number is put in its place. -/
structure PutI (l : List Int) (x : Int) (i : Nat) (b : Bool) (ol : List Int) : Prop where
  no : b = false → ol = l.take i ∧ ∀ y ∈ l.take i, y < x
  yes : b = true → Asc ol ∧ (∀ y, y ∈ ol ↔ y ∈ l.take i ∨ y = x) ∧ ∀ y ∈ ol, ∀ z ∈ l.drop i, y < z
  le : ol.length ≤ i + 1
theorem PutI.end_ {l : List Int} {x : Int} {b : Bool} {ol : List Int} (h : PutI l x l.length b ol) (ha : Asc l) : (b = true → ol = rsn (l ++ [x])) ∧ (b = false → ol ++ [x] = rsn (l ++ [x])) := by
  refine ⟨fun hb => ?_, fun hb => ?_⟩
  · obtain ⟨h1, h2, _⟩ := h.yes hb
    refine rsn_to h1 fun y => ?_
    rw [h2 y, List.take_length]
    simp
  · obtain ⟨h1, h2⟩ := h.no hb
    rw [List.take_length] at h1 h2
    subst h1
    refine rsn_to ?_ fun y => Iff.rfl
    exact List.pairwise_append.2 ⟨ha, by simp, fun y hy z hz => by rw [List.mem_singleton] at hz; subst hz; exact h2 y hy⟩
theorem PutI.put {l : List Int} {x : Int} {i : Nat} {ol : List Int} (h : PutI l x i false ol) (ha : Asc l) (hi : i < l.length) (hx : x < l[i]) : PutI l x (i + 1) true (ol ++ [x] ++ [l[i]]) := by
  obtain ⟨e, hb⟩ := h.no rfl
  subst e
  have ⟨a1, a2⟩ := asc_drop_lt ha hi
  refine ⟨fun h => (by cases h), fun _ => ⟨?_, fun y => ?_, fun y hy z hz => ?_⟩, ?_⟩
  · refine List.pairwise_append.2 ⟨List.pairwise_append.2 ⟨ha.sublist (List.take_sublist _ _), by simp, fun y hy z hz => ?_⟩, by simp, fun y hy z hz => ?_⟩
    · rw [List.mem_singleton] at hz; subst hz; exact hb y hy
    · rw [List.mem_singleton] at hz; subst hz
      rcases List.mem_append.1 hy with hy | hy
      · exact a1 y hy
      · rw [List.mem_singleton] at hy; subst hy; exact hx
  · rw [List.take_succ_eq_append_getElem hi]
    simp only [List.mem_append, List.mem_singleton]
    constructor
    · rintro ((h | h) | h)
      · exact .inl (.inl h)
      · exact .inr h
      · exact .inl (.inr h)
    · rintro ((h | h) | h)
      · exact .inl (.inl h)
      · exact .inr h
      · exact .inl (.inr h)
  · have hz2 := a2 z hz
    rcases List.mem_append.1 hy with hy | hy
    · rcases List.mem_append.1 hy with hy | hy
      · have := a1 y hy; omega
      · rw [List.mem_singleton] at hy; omega
    · rw [List.mem_singleton] at hy; omega
  · simp only [List.length_append, List.length_take, List.length_singleton]; omega
theorem PutI.go {l : List Int} {x : Int} {i : Nat} {b : Bool} {ol : List Int} (h : PutI l x i b ol) (ha : Asc l) (hi : i < l.length) (hx : b = true ∨ (¬ x < l[i] ∧ x ≠ l[i])) : PutI l x (i + 1) b (ol ++ [l[i]]) := by
  have ⟨a1, a2⟩ := asc_drop_lt ha hi
  have hd : l.drop i = l[i] :: l.drop (i + 1) := List.drop_eq_getElem_cons hi
  refine ⟨fun hb => ?_, fun hb => ?_, by have := h.le; simp only [List.length_append, List.length_singleton]; omega⟩
  · obtain ⟨e, hb2⟩ := h.no hb
    rw [List.take_succ_eq_append_getElem hi]
    refine ⟨by rw [e], fun y hy => ?_⟩
    rcases List.mem_append.1 hy with hy | hy
    · exact hb2 y hy
    · rw [List.mem_singleton] at hy
      rcases hx with hx | hx
      · rw [hb] at hx; cases hx
      · omega
  · obtain ⟨h1, h2, h3⟩ := h.yes hb
    rw [hd] at h3
    refine ⟨List.pairwise_append.2 ⟨h1, by simp, fun y hy z hz => by rw [List.mem_singleton] at hz; subst hz; exact h3 y hy _ List.mem_cons_self⟩, fun y => ?_, fun y hy z hz => ?_⟩
    · rw [List.take_succ_eq_append_getElem hi]
      simp only [List.mem_append, List.mem_singleton, h2 y]
      constructor
      · rintro ((h | h) | h)
        · exact .inl (.inl h)
        · exact .inr h
        · exact .inl (.inr h)
      · rintro ((h | h) | h)
        · exact .inl (.inl h)
        · exact .inr h
        · exact .inl (.inr h)
    · rcases List.mem_append.1 hy with hy | hy
      · exact h3 y hy z (List.mem_cons_of_mem _ hz)
      · rw [List.mem_singleton] at hy; subst hy; exact a2 z hz

theorem f93 {m : Md} {H : Hp} {v : Value} {l : List Int} {x : Int} (hl : SlI H v l) (ha : Asc l) (hle : l.length ≤ 1048570) (hw : Wr m H) : Fun EE m 93 [v, .int .i64 x] H fun r H' => H <+: H' ∧ SlI H' r (rsn (l ++ [x])) ∧ (r = v ∨ OwnS H.length r) := by
  refine fun_f rfl rfl k93 (by simp [c93]) ?_
  have a61 := fun {m draw s d ts Q} => callT_at (m := m) (draw := draw) (s := s) (d := d) (ts := ts) (Q := Q) (f61 (h := x) hl)
  have p0 : H <+: H ++ [[]] := List.prefix_append _ _
  have s0 : SlI (H ++ [[]]) (.slice (some ⟨H.length, 0, some 1⟩) 0 (0 * 1)) [] := own_new
  have o0 : OwnS H.length (.slice (some ⟨H.length, 0, some 1⟩) 0 (0 * 1)) := .inr ⟨_, _, _, _, rfl, Nat.le_refl _⟩
  generalize hwv : Value.slice (some ⟨H.length, 0, some 1⟩) 0 (0 * 1) = wv0 at s0 o0
  simp only [go_sem, ↓reduceIte, Nat.reduceEqDiff, reduceCtorEq, Nat.reduceAdd, Nat.reduceLeDiff, Nat.reduceMul, c93, a61, hw]
  refine brT.intro (fun c0 => ?_) (fun c0 => ?_) <;> simp only [go_sem, ↓reduceIte, Nat.reduceEqDiff, reduceCtorEq, Nat.reduceAdd, Nat.reduceLeDiff, Nat.reduceMul, fillL, hwv]
  · have hm := of_decide_eq_true c0
    have : rsn (l ++ [x]) = l := (rsn_to ha fun y => by
      rw [List.mem_append, List.mem_singleton]
      exact ⟨fun h => .inl h, fun h => by rcases h with h | h; exact h; subst h; exact hm⟩).symm
    rw [this]
    exact ⟨List.prefix_refl _, hl, .inl trivial⟩
  have hx := of_decide_eq_false c0
  refine go_for l.length (fun i s => H <+: s.H ∧ s.ρ 0 = .val v ∧ s.ρ 1 = .val (.int .i64 x) ∧ s.ρ 4 = .val (.slice none 0 0) ∧ s.ρ 7 = .val (.int .i64 i) ∧ ∃ b wv ol, s.ρ 6 = .val (.bool b) ∧ s.ρ 5 = .val wv ∧ SlI s.H wv ol ∧ OwnS H.length wv ∧ PutI l x i b ol)
    (fun s => H <+: s.H ∧ s.ρ 1 = .val (.int .i64 x) ∧ s.ρ 4 = .val (.slice none 0 0) ∧ ∃ b wv ol, s.ρ 6 = .val (.bool b) ∧ s.ρ 5 = .val wv ∧ SlI s.H wv ol ∧ OwnS H.length wv ∧ PutI l x l.length b ol) ?_ ?_ ?_
  · exact ⟨p0, by simp [upd, ini], by simp [upd, ini], by simp [upd], by simp [upd], false, wv0, [], by simp [upd], by simp [upd], s0, o0, ⟨fun _ => ⟨by simp, by simp⟩, fun h => (by cases h), by simp⟩⟩
  · rintro i s hi ⟨kH, k0, k1, k4, k7, b, wv, ol, k6, k5, ks, ko, kp⟩
    have kv := hl.pre kH
    simp only [go_sem, ↓reduceIte, Nat.reduceEqDiff, reduceCtorEq, Nat.reduceAdd, Nat.reduceLeDiff, Nat.reduceMul, k0, k1, k4, k5, k6, k7, kv.len]
    cases q1 : decide ((i : Int) < (l.length : Int)) <;> simp only [go_sem, ↓reduceIte, Nat.reduceEqDiff, reduceCtorEq, Nat.reduceAdd, Nat.reduceLeDiff, Nat.reduceMul, k0, k1, k4, k5, k6, k7, q1]
    · have : i = l.length := by have := of_decide_eq_false q1; omega
      subst this
      exact ⟨kH, b, wv, ol, rfl, rfl, ks, ko, kp⟩
    have hil : i < l.length := by have := of_decide_eq_true q1; omega
    have w1 := wrap64 ((i : Int) + 1) (by omega) (by omega)
    obtain ⟨id, p, o, ho, hre, hia⟩ := kv.int (List.getElem?_eq_getElem hil)
    have hole := kp.le
    have hne : x ≠ l[i] := fun e => hx (by rw [e]; exact List.getElem_mem hil)
    cases b with
    | true =>
      obtain ⟨v3, H3, d1, d2, d3, d4, d5, d6, d7⟩ := ks.one (m := m) l[i] ko kH.length_le hw (by omega)
      simp only [go_sem, ↓reduceIte, Nat.reduceEqDiff, reduceCtorEq, Nat.reduceAdd, Nat.reduceLeDiff, Nat.reduceMul, k0, k1, k4, k5, k6, k7, hia, ho, hre]
      rw [d1]
      rotate_left
      · rfl
      · rfl
      · rfl
      simp only [go_sem, ↓reduceIte, Nat.reduceEqDiff, reduceCtorEq, Nat.reduceAdd, Nat.reduceLeDiff, Nat.reduceMul, k0, k1, k4, k5, k6, k7, w1]
      exact ⟨hil, d7 H (Nat.le_refl _) kH, by simp, true, v3, _, rfl, rfl, d2, d3, kp.go ha hil (.inl rfl)⟩
    | false =>
      simp only [go_sem, ↓reduceIte, Nat.reduceEqDiff, reduceCtorEq, Nat.reduceAdd, Nat.reduceLeDiff, Nat.reduceMul, k0, k1, k4, k5, k6, k7, hia, ho, hre]
      cases q2 : decide (x < l[i]) <;> simp only [go_sem, ↓reduceIte, Nat.reduceEqDiff, reduceCtorEq, Nat.reduceAdd, Nat.reduceLeDiff, Nat.reduceMul, k0, k1, k4, k5, k6, k7, q2]
      · obtain ⟨v3, H3, d1, d2, d3, d4, d5, d6, d7⟩ := ks.one (m := m) l[i] ko kH.length_le hw (by omega)
        simp only [go_sem, ↓reduceIte, Nat.reduceEqDiff, reduceCtorEq, Nat.reduceAdd, Nat.reduceLeDiff, Nat.reduceMul, k0, k1, k4, k5, k6, k7, hia, ho, hre]
        rw [d1]
        rotate_left
        · rfl
        · rfl
        · rfl
        simp only [go_sem, ↓reduceIte, Nat.reduceEqDiff, reduceCtorEq, Nat.reduceAdd, Nat.reduceLeDiff, Nat.reduceMul, k0, k1, k4, k5, k6, k7, w1]
        exact ⟨hil, d7 H (Nat.le_refl _) kH, by simp, false, v3, _, rfl, rfl, d2, d3, kp.go ha hil (.inr ⟨of_decide_eq_false q2, hne⟩)⟩
      · obtain ⟨v3, H3, d1, d2, d3, d4, d5, d6, d7⟩ := ks.one (m := m) x ko kH.length_le hw (by omega)
        have p3 := d7 H (Nat.le_refl _) kH
        rw [d1]
        rotate_left
        · rfl
        · rfl
        · rfl
        obtain ⟨id', p', o', ho', hre', hia'⟩ := (hl.pre p3).int (List.getElem?_eq_getElem hil)
        obtain ⟨v5, H5, g1, g2, g3, g4, g5, g6, g7⟩ := d2.one (m := m) l[i] d3 p3.length_le hw (by simp; omega)
        simp only [go_sem, ↓reduceIte, Nat.reduceEqDiff, reduceCtorEq, Nat.reduceAdd, Nat.reduceLeDiff, Nat.reduceMul, k0, k1, k4, k5, k6, k7, hia', ho', hre']
        rw [g1]
        rotate_left
        · rfl
        · rfl
        · rfl
        simp only [go_sem, ↓reduceIte, Nat.reduceEqDiff, reduceCtorEq, Nat.reduceAdd, Nat.reduceLeDiff, Nat.reduceMul, k0, k1, k4, k5, k6, k7, w1]
        exact ⟨hil, g7 H (Nat.le_refl _) p3, by simp, true, v5, _, rfl, rfl, g2, g3, kp.put ha hil (of_decide_eq_true q2)⟩
  · rintro s ⟨kH, k1, k4, b, wv, ol, k6, k5, ks, ko, kp⟩
    have hole := kp.le
    simp only [go_sem, ↓reduceIte, Nat.reduceEqDiff, reduceCtorEq, Nat.reduceAdd, Nat.reduceLeDiff, Nat.reduceMul, k1, k4, k5, k6]
    cases b with
    | true =>
      simp only [go_sem, ↓reduceIte, Nat.reduceEqDiff, reduceCtorEq, Nat.reduceAdd, Nat.reduceLeDiff, Nat.reduceMul, k1, k4, k5, k6]
      rw [← (kp.end_ ha).1 rfl]
      exact ⟨kH, ks, .inr ko⟩
    | false =>
      obtain ⟨v3, H3, d1, d2, d3, d4, d5, d6, d7⟩ := ks.one (m := m) x ko kH.length_le hw (by omega)
      simp only [go_sem, ↓reduceIte, Nat.reduceEqDiff, reduceCtorEq, Nat.reduceAdd, Nat.reduceLeDiff, Nat.reduceMul, k1, k4, k5, k6]
      rw [d1]
      rotate_left
      · rfl
      · rfl
      · rfl
      simp only [go_sem, ↓reduceIte, Nat.reduceEqDiff, reduceCtorEq, Nat.reduceAdd, Nat.reduceLeDiff, Nat.reduceMul, k1, k4, k5, k6]
      rw [← (kp.end_ ha).2 rfl]
      exact ⟨d7 H (Nat.le_refl _) kH, d2, .inr d3⟩

theorem f82 {m : Md} {H : Hp} {v u : Value} {l k : List Int} (hl : SlI H v l) (hk : SlI H u k) (ha : Asc l) (hle : l.length + k.length ≤ 1048570) (hw : Wr m H) : Fun EE m 82 [v, u] H fun r H' => FreshS eI 1 H r H' (rsn (l ++ k)) := by
  refine fun_f rfl rfl k82 (by simp [c82]) ?_
  have p0 : H <+: H ++ [[]] := List.prefix_append _ _
  have s0 : SlI (H ++ [[]]) (.slice (some ⟨H.length, 0, some 1⟩) 0 (0 * 1)) [] := own_new
  have o0 : OwnS H.length (.slice (some ⟨H.length, 0, some 1⟩) 0 (0 * 1)) := .inr ⟨_, _, _, _, rfl, Nat.le_refl _⟩
  generalize hwv : Value.slice (some ⟨H.length, 0, some 1⟩) 0 (0 * 1) = wv0 at s0 o0
  obtain ⟨v2, H2, d1, d2, d3, d4, d5, d6, d7⟩ := s0.joinI (m := m) (hl.pre p0) o0 p0.length_le hw (by simp; omega)
  simp only [go_sem, ↓reduceIte, Nat.reduceEqDiff, reduceCtorEq, Nat.reduceAdd, Nat.reduceLeDiff, Nat.reduceMul, c82, fillL, hwv]
  rw [d1]
  rotate_left
  · rfl
  · rfl
  · rfl
  simp only [go_sem, ↓reduceIte, Nat.reduceEqDiff, reduceCtorEq, Nat.reduceAdd, Nat.reduceLeDiff, Nat.reduceMul]
  refine go_for k.length (fun i s => H <+: s.H ∧ s.ρ 1 = .val u ∧ s.ρ 6 = .val (.int .i64 i) ∧ ∃ wv, s.ρ 5 = .val wv ∧ SlI s.H wv (rsn (l ++ k.take i)) ∧ OwnS H.length wv)
    (fun s => H <+: s.H ∧ ∃ wv, s.ρ 5 = .val wv ∧ SlI s.H wv (rsn (l ++ k)) ∧ OwnS H.length wv) ?_ ?_ ?_
  · exact ⟨d7 H (Nat.le_refl _) p0, by simp [upd, ini], by simp [upd], v2, by simp [upd], by rw [List.take_zero, List.append_nil, rsn_self ha]; exact d2, d3⟩
  · rintro i s hi ⟨kH, k1, k6, wv, k5, ks, ko⟩
    have kk := hk.pre kH
    have kw := hw.pre kH
    simp only [go_sem, ↓reduceIte, Nat.reduceEqDiff, reduceCtorEq, Nat.reduceAdd, Nat.reduceLeDiff, Nat.reduceMul, k1, k5, k6, kk.len]
    cases q1 : decide ((i : Int) < (k.length : Int)) <;> simp only [go_sem, ↓reduceIte, Nat.reduceEqDiff, reduceCtorEq, Nat.reduceAdd, Nat.reduceLeDiff, Nat.reduceMul, k1, k5, k6, q1]
    · have : i = k.length := by have := of_decide_eq_false q1; omega
      subst this
      rw [List.take_length] at ks
      exact ⟨kH, wv, rfl, ks, ko⟩
    have hil : i < k.length := by have := of_decide_eq_true q1; omega
    have w1 := wrap64 ((i : Int) + 1) (by omega) (by omega)
    obtain ⟨id, p, o, ho, hre, hia⟩ := kk.int (List.getElem?_eq_getElem hil)
    have a61 := fun {m draw s d ts Q} => callT_at (m := m) (draw := draw) (s := s) (d := d) (ts := ts) (Q := Q) (f61 (h := k[i]) ks)
    have hln : (rsn (l ++ k.take i)).length ≤ l.length + i := by
      have := rsn_le (l ++ k.take i)
      rw [List.length_append, List.length_take] at this
      omega
    have hsame : rsn (rsn (l ++ k.take i) ++ [k[i]]) = rsn (l ++ k.take (i + 1)) := rsn_to (rsn_asc _) fun x => by
      rw [rsn_mem, List.mem_append, rsn_mem, List.mem_append, List.mem_append, List.take_succ_eq_append_getElem hil, List.mem_append, or_assoc]
    simp only [go_sem, ↓reduceIte, Nat.reduceEqDiff, reduceCtorEq, Nat.reduceAdd, Nat.reduceLeDiff, Nat.reduceMul, k1, k5, k6, hia, ho, hre, a61, kw]
    refine brT.intro (fun c1 => ?_) (fun c1 => ?_) <;> simp only [go_sem, ↓reduceIte, Nat.reduceEqDiff, reduceCtorEq, Nat.reduceAdd, Nat.reduceLeDiff, Nat.reduceMul, k1, k5, k6, hia, ho, hre, w1]
    · have hm := of_decide_eq_true c1
      have e : rsn (l ++ k.take i) = rsn (l ++ k.take (i + 1)) := by
        rw [← hsame]
        exact rsn_to (rsn_asc _) fun x => by
          rw [List.mem_append (t := [k[i]]), List.mem_singleton]
          refine ⟨fun h => .inl h, fun h => ?_⟩
          rcases h with h | h
          · exact h
          · subst h; exact hm
      exact ⟨hil, kH, by simp, wv, rfl, by rw [← e]; exact ks, ko⟩
    · have hle2 : (rsn (l ++ k.take i)).length ≤ 1048570 := by omega
      refine callT_to (fun m' h => f93 ks (rsn_asc _) hle2 h) rfl kw fun r H3 ⟨p3, s3, o3⟩ => ?_
      rw [hsame] at s3
      have hlen := kH.length_le
      simp only [go_sem, ↓reduceIte, Nat.reduceEqDiff, reduceCtorEq, Nat.reduceAdd, Nat.reduceLeDiff, Nat.reduceMul, k1, k5, k6, w1]
      refine ⟨hil, kH.trans p3, by simp, r, rfl, s3, ?_⟩
      rcases o3 with rfl | o3
      · exact ko
      · exact o3.mono hlen
  · rintro s ⟨kH, wv, k5, ks, ko⟩
    simp only [go_sem, ↓reduceIte, Nat.reduceEqDiff, reduceCtorEq, Nat.reduceAdd, Nat.reduceLeDiff, Nat.reduceMul, k5]
    exact ⟨kH, ks, ko⟩
end Go.Proofs.Ytdplmjlbkaipiaa.Ev

/- Groups put together: what it leaves, rows apart; the reference's way. -/
namespace Go.Proofs.Ytdplmjlbkaipiaa.Ev
set_option linter.all false
open Go
set_option maxRecDepth 4000

/-- A group and its two headers. -/
abbrev GX := Group × Value × Value
def RX (H : Hp) (x : GX) (cs : List Value) : Prop := cs = [x.2.1, x.2.2] ∧ SlI H x.2.1 x.1.1 ∧ SlI H x.2.2 x.1.2
def idsX (x : GX) : List Nat := idsOf x.2.1 ++ idsOf x.2.2
structure GL (N : Nat) (H : Hp) (v : Value) (l : List GX) : Prop where
  sl : Sl (RX H) 2 H v l
  own : OwnS N v
  nd : (l.flatMap idsX).Nodup
  far : ∀ j ∈ l.flatMap idsX, j ∉ idsOf v ∧ N ≤ j ∧ j < H.length
theorem RX.pre {H H' : Hp} {x : GX} {cs : List Value} (h : RX H x cs) (hp : H <+: H') : RX H' x cs := ⟨h.1, h.2.1.pre hp, h.2.2.pre hp⟩
theorem GL.pre {N : Nat} {H H' : Hp} {v : Value} {l : List GX} (h : GL N H v l) (hp : H <+: H') : GL N H' v l :=
  ⟨(h.sl.pre hp).frame (fun _ _ _ h => h.pre hp) fun _ _ _ _ _ _ => rfl, h.own, h.nd, fun j hj => ⟨(h.far j hj).1, (h.far j hj).2.1, by have := (h.far j hj).2.2; have := hp.length_le; omega⟩⟩
theorem Sl.mapG {H : Hp} {v : Value} : ∀ {l : List GX}, Sl (RX H) 2 H v l → SlG H v (l.map (·.1)) := fun {l} h => by
  rcases h with ⟨rfl, rfl⟩ | ⟨id, off, cap, o, rfl, ho, hc, hn, hrm, hr⟩
  · exact .inl ⟨rfl, rfl⟩
  · exact .inr ⟨id, off, cap, o, by rw [List.length_map], ho, hc, by rw [List.length_map]; exact hn, by rw [List.length_map]; exact hrm, fun i a hi => by
      rw [List.getElem?_map] at hi
      cases hx : l[i]? with
      | none => rw [hx] at hi; cases hi
      | some x =>
        rw [hx] at hi
        cases hi
        obtain ⟨e, p, q⟩ := hr i x hx
        exact ⟨_, _, e, p, q⟩⟩
theorem GL.g {N : Nat} {H : Hp} {v : Value} {l : List GX} (h : GL N H v l) : SlG H v (l.map (·.1)) := h.sl.mapG
theorem GL.push {m : Md} {N : Nat} {H : Hp} {v u s : Value} {l : List GX} {g1 g2 : List Int} (h : GL N H v l) (hN : N ≤ H.length) (hu : SlI H u g1) (hs : SlI H s g2) (hnd : (idsOf u ++ idsOf s).Nodup) (hfar : ∀ j ∈ idsOf u ++ idsOf s, N ≤ j ∧ j ∉ idsOf v ∧ j ∉ l.flatMap idsX)
    (hw : ∀ id, N ≤ id → m.wr id = true) (hnr : m.nr = false) (hb : l.length < 1000) :
    ∃ v' H', (∀ (st : St) (x y : X), st.H = H → exv st.ρ x = some v → ex st.ρ y = .vs 1 [u, s] → appK m st 2 48 x y = some (.val v', { st with H := H' })) ∧ GL N H' v' (l ++ [((g1, g2), u, s)]) ∧ ∀ H0 : Hp, H0.length ≤ N → H0 <+: H → H0 <+: H' := by
  obtain ⟨v', H', h1, h2, h3, h4, h5, h6, h7⟩ := h.sl.app (m := m) (n := 1) (bytes := 48) (l2 := [((g1, g2), u, s)]) (cs := [u, s]) h.own hN hw (fun e => by rw [hnr] at e; cases e) (by simp) rfl (fun i b hi => by
    cases i with
    | zero => simp at hi; subst hi; exact ⟨rfl, hu, hs⟩
    | succ i => simp at hi) (by unfold Ev.room; simp; omega) (by unfold Ev.room; simp; omega)
  have keepI : ∀ {w : Value} {k : List Int}, SlI H w k → (∀ j ∈ idsOf w, j ∉ idsOf v) → SlI H' w k := fun {w k} hk hd => hk.aside hd h4
  have hm : (l ++ [((g1, g2), u, s)]).flatMap idsX = l.flatMap idsX ++ (idsOf u ++ idsOf s) := by simp [List.flatMap_append, idsX]
  have hlt : ∀ j ∈ idsOf u ++ idsOf s, j < H.length := fun j hj => by
    rcases List.mem_append.1 hj with hj | hj
    · exact hu.ids j hj
    · exact hs.ids j hj
  refine ⟨v', H', fun st x y hH hx hy => h1 st x y hH hx (by rw [hy]; rfl), ⟨h2.frame (fun x hx cs ⟨e, p, q⟩ => ?_) fun _ _ _ _ _ _ => rfl, h3, ?_, fun j hj => ?_⟩, h7⟩
  · refine ⟨e, keepI p fun j hj => ?_, keepI q fun j hj => ?_⟩
    · rcases List.mem_append.1 hx with hx | hx
      · exact (h.far j (List.mem_flatMap.2 ⟨x, hx, List.mem_append_left _ hj⟩)).1
      · rw [List.mem_singleton] at hx
        subst hx
        exact (hfar j (List.mem_append_left _ hj)).2.1
    · rcases List.mem_append.1 hx with hx | hx
      · exact (h.far j (List.mem_flatMap.2 ⟨x, hx, List.mem_append_right _ hj⟩)).1
      · rw [List.mem_singleton] at hx
        subst hx
        exact (hfar j (List.mem_append_right _ hj)).2.1
  · rw [hm]
    exact List.nodup_append.2 ⟨h.nd, hnd, fun a ha b hb e => by subst e; exact (hfar a hb).2.2 ha⟩
  · rw [hm] at hj
    have key : j ∉ idsOf v → N ≤ j → j < H.length → j ∉ idsOf v' ∧ N ≤ j ∧ j < H'.length := fun a b c => ⟨fun hq => by
      rcases h6 j hq with hq | hq
      · exact a hq
      · omega, b, by omega⟩
    rcases List.mem_append.1 hj with hj | hj
    · have := h.far j hj
      exact key this.1 this.2.1 this.2.2
    · have := hfar j hj
      exact key this.2.1 this.1 (hlt j hj)

def uOf (l : List Group) (i : Nat) : List Int := match l[i]? with | some g => g.1 | none => []
def sOf (l : List Group) (i : Nat) : List Int := match l[i]? with | some g => g.2 | none => []
def mgG (a b : List Group) (i : Nat) : Group := (rsn (uOf a i ++ uOf b i), rsn (sOf a i ++ sOf b i))
noncomputable def mergeL (a b : List Group) : List Group := if groupsOk a = true ∧ groupsOk b = true then (List.range (max a.length b.length)).map (mgG a b) else []
theorem mergeL_no {a b : List Group} (h : ¬ (groupsOk a = true ∧ groupsOk b = true)) : mergeL a b = [] := by unfold mergeL; rw [if_neg h]
theorem mergeL_yes {a b : List Group} (h : groupsOk a = true ∧ groupsOk b = true) : mergeL a b = (List.range (max a.length b.length)).map (mgG a b) := by unfold mergeL; rw [if_pos h]
theorem uOf_at {l : List Group} {i : Nat} (h : i < l.length) : uOf l i = l[i].1 ∧ sOf l i = l[i].2 := by unfold uOf sOf; rw [List.getElem?_eq_getElem h]; exact ⟨rfl, rfl⟩
theorem uOf_no {l : List Group} {i : Nat} (h : ¬ i < l.length) : uOf l i = [] ∧ sOf l i = [] := by unfold uOf sOf; rw [List.getElem?_eq_none (by omega)]; exact ⟨rfl, rfl⟩
theorem rise_asc {l : List Int} (h : RiseP l) : Asc l := by
  have nb : ∀ i, (hi : i + 1 < l.length) → l[i]'(by omega) < l[i + 1] := fun i hi => h i _ _ (List.getElem?_eq_getElem (by omega)) (List.getElem?_eq_getElem hi)
  refine List.pairwise_iff_getElem.2 fun i j hi hj hij => ?_
  obtain ⟨d, rfl⟩ : ∃ d, j = i + 1 + d := ⟨j - (i + 1), by omega⟩
  induction d with
  | zero => exact nb i hj
  | succ d ih => exact Int.lt_trans (ih (by omega) (by omega)) (nb (i + 1 + d) hj)
theorem ok_of {l : List Group} (h : groupsOk l = true) (i : Nat) : Asc (uOf l i) ∧ Asc (sOf l i) ∧ (uOf l i).length ≤ 31 ∧ (sOf l i).length ≤ 8 := by
  obtain ⟨h1, h2⟩ := groupsOk_in h
  by_cases hi : i < l.length
  · obtain ⟨a, b⟩ := h2 i _ (List.getElem?_eq_getElem hi)
    rw [(uOf_at hi).1, (uOf_at hi).2]
    have e1 := rise_len a (by omega)
    have e2 := rise_len b (by omega)
    exact ⟨rise_asc a.2, rise_asc b.2, by omega, by omega⟩
  · rw [(uOf_no hi).1, (uOf_no hi).2]
    exact ⟨List.Pairwise.nil, List.Pairwise.nil, by simp, by simp⟩
theorem Sl.ids_nd {α : Type} {R : α → List Value → Prop} {esz : Nat} {H : Hp} {v : Value} {l : List α} (h : Sl R esz H v l) : (idsOf v).Nodup := by
  rcases h with ⟨rfl, rfl⟩ | ⟨id, off, cap, o, rfl, _⟩ <;> simp [idsOf]
theorem rsn_both (a b : List Int) : rsn (rsn a ++ b) = rsn (a ++ b) := rsn_to (rsn_asc _) fun x => by rw [rsn_mem, List.mem_append, rsn_mem, List.mem_append]

/-- Two rows of numbers, made anew from N on. -/
def Two (N : Nat) (H : Hp) (x y : Value) (p q : List Int) : Prop := SlI H x p ∧ SlI H y q ∧ OwnS N x ∧ OwnS N y ∧ (∀ j ∈ idsOf x, j ∉ idsOf y)
theorem Two.nd {N : Nat} {H : Hp} {x y : Value} {p q : List Int} (h : Two N H x y p q) : (idsOf x ++ idsOf y).Nodup :=
  List.nodup_append.2 ⟨h.1.ids_nd, h.2.1.ids_nd, fun a ha b hb e => by subst e; exact h.2.2.2.2 a ha hb⟩
theorem Two.ge {N : Nat} {H : Hp} {x y : Value} {p q : List Int} (h : Two N H x y p q) : ∀ j ∈ idsOf x ++ idsOf y, N ≤ j ∧ j < H.length := fun j hj => by
  rcases List.mem_append.1 hj with hj | hj
  · exact ⟨own_ge h.2.2.1 j hj, h.1.ids j hj⟩
  · exact ⟨own_ge h.2.2.2.1 j hj, h.2.1.ids j hj⟩
theorem Two.pre {N : Nat} {H H' : Hp} {x y : Value} {p q : List Int} (h : Two N H x y p q) (hp : H <+: H') : Two N H' x y p q := ⟨h.1.pre hp, h.2.1.pre hp, h.2.2⟩
/-- Put behind the groups that are there. -/
theorem GL.push2 {m : Md} {N : Nat} {H K : Hp} {v u s : Value} {l : List GX} {g1 g2 : List Int} (h : GL N K v l) (hN : N ≤ K.length) (hp : K <+: H) (h2 : Two K.length H u s g1 g2)
    (hw : ∀ id, N ≤ id → m.wr id = true) (hnr : m.nr = false) (hb : l.length < 1000) :
    ∃ v' H', (∀ (st : St) (x y : X), st.H = H → exv st.ρ x = some v → ex st.ρ y = .vs 1 [u, s] → appK m st 2 48 x y = some (.val v', { st with H := H' })) ∧ GL N H' v' (l ++ [((g1, g2), u, s)]) ∧ ∀ H0 : Hp, H0.length ≤ N → H0 <+: H → H0 <+: H' :=
  (h.pre hp).push (Nat.le_trans hN hp.length_le) h2.1 h2.2.1 h2.nd (fun j hj => by
    have a := h2.ge j hj
    refine ⟨by omega, fun hm => ?_, fun hm => ?_⟩
    · have := h.sl.ids j hm
      omega
    · have := (h.far j hm).2.2
      omega) hw hnr hb

def FreshX (H : Hp) (v : Value) (H' : Hp) (gs : List Group) : Prop := H <+: H' ∧ ∃ l, GL H.length H' v l ∧ l.map (·.1) = gs
theorem GL.new {H : Hp} : GL H.length (H ++ [[]]) (.slice (some ⟨H.length, 0, some 2⟩) 0 (0 * 2)) [] :=
  ⟨.inr ⟨H.length, 0, 0, [], rfl, by simp, by simp, by simp, by simp, fun i a hi => by simp at hi⟩, .inr ⟨_, _, _, _, rfl, Nat.le_refl _⟩, by simp, by simp⟩

end Go.Proofs.Ytdplmjlbkaipiaa.Ev

/- Groups put together, the reference's way. -/
namespace Go.Proofs.Ytdplmjlbkaipiaa.Ev
set_option linter.all false
open Go
set_option maxRecDepth 4000

/-- While a group is put together: what the slots hold. -/
def MgSt (K : Hp) (va vb wv : Value) (i : Nat) (p q : List Int) (s : St) : Prop := K <+: s.H ∧ s.ρ 0 = .val va ∧ s.ρ 1 = .val vb ∧ s.ρ 4 = .val (.slice none 0 0) ∧ s.ρ 5 = .val wv ∧ s.ρ 6 = .val (.int .i64 i) ∧ ∃ g x y, s.ρ 7 = .bx g [x, y] ∧ Two K.length s.H x y p q
theorem f50 {m : Md} {H : Hp} {va vb : Value} {a b : List Group} (ha : SlG H va a) (hb : SlG H vb b) (hw : Wr m H) (hnr : m.nr = false) : Fun EE m 50 [va, vb] H fun r H' => FreshX H r H' (mergeL a b) := by
  refine fun_f rfl rfl k50 (by simp [c50]) ?_
  have p0 : H <+: H ++ [[]] := List.prefix_append _ _
  have w0 := hw.pre p0
  have g0 : GL H.length (H ++ [[]]) (.slice (some ⟨H.length, 0, some 2⟩) 0 (0 * 2)) [] := GL.new
  generalize hwv : Value.slice (some ⟨H.length, 0, some 2⟩) 0 (0 * 2) = wv0 at g0
  have ha0 := ha.preG p0
  have hb0 := hb.preG p0
  have aa := fun {m draw s d ts Q} => callT_at (m := m) (draw := draw) (s := s) (d := d) (ts := ts) (Q := Q) (f39 ha0)
  have ab := fun {m draw s d ts Q} => callT_at (m := m) (draw := draw) (s := s) (d := d) (ts := ts) (Q := Q) (f39 hb0)
  have nope : ¬ (groupsOk a = true ∧ groupsOk b = true) → FreshX H wv0 (H ++ [[]]) (mergeL a b) := fun h => by
    rw [mergeL_no h]
    exact ⟨p0, [], g0, rfl⟩
  simp only [go_sem, ↓reduceIte, Nat.reduceEqDiff, reduceCtorEq, Nat.reduceAdd, Nat.reduceLeDiff, Nat.reduceMul, c50, fillL, hwv, aa, w0]
  cases hoa : groupsOk a <;> simp only [go_sem, ↓reduceIte, Nat.reduceEqDiff, reduceCtorEq, Nat.reduceAdd, Nat.reduceLeDiff, Nat.reduceMul, hoa, ab, w0]
  · exact nope (fun h => by rw [hoa] at h; cases h.1)
  cases hob : groupsOk b <;> simp only [go_sem, ↓reduceIte, Nat.reduceEqDiff, reduceCtorEq, Nat.reduceAdd, Nat.reduceLeDiff, Nat.reduceMul, hob]
  · exact nope (fun h => by rw [hob] at h; cases h.2)
  rw [mergeL_yes ⟨hoa, hob⟩]
  have la := (groupsOk_in hoa).1
  have lb := (groupsOk_in hob).1
  refine go_for (max a.length b.length) (fun i s => H <+: s.H ∧ s.ρ 0 = .val va ∧ s.ρ 1 = .val vb ∧ s.ρ 4 = .val (.slice none 0 0) ∧ s.ρ 6 = .val (.int .i64 i) ∧ ∃ wv l, s.ρ 5 = .val wv ∧ GL H.length s.H wv l ∧ l.map (·.1) = (List.range i).map (mgG a b))
    (fun s => H <+: s.H ∧ s.ρ 4 = .val (.slice none 0 0) ∧ ∃ wv l, s.ρ 5 = .val wv ∧ GL H.length s.H wv l ∧ l.map (·.1) = (List.range (max a.length b.length)).map (mgG a b)) ?_ ?_ ?_
  · exact ⟨p0, by simp [upd, ini], by simp [upd, ini], by simp [upd], by simp [upd], wv0, [], by simp [upd], g0, rfl⟩
  · rintro i s hi ⟨kH, k0, k1, k4, k6, wv, l, k5, kg, kl⟩
    have sa := ha.preG kH
    have sb := hb.preG kH
    have kw := hw.pre kH
    have hin : (decide ((i : Int) < (a.length : Int)) || decide ((i : Int) < (b.length : Int))) = decide (i < max a.length b.length) := by
      rw [Bool.eq_iff_iff]; simp; omega
    have hll : l.length = i := by have := congrArg List.length kl; simpa using this
    have w1 := wrap64 ((i : Int) + 1) (by omega) (by omega)
    simp only [go_sem, ↓reduceIte, Nat.reduceEqDiff, reduceCtorEq, Nat.reduceAdd, Nat.reduceLeDiff, Nat.reduceMul, k0, k1, k4, k5, k6, sa.len]
    have oka := ok_of hoa i
    have okb := ok_of hob i
    have K0 : Two s.H.length s.H (.slice Option.none 0 0) (.slice Option.none 0 0) [] [] := ⟨.inl ⟨rfl, rfl⟩, .inl ⟨rfl, rfl⟩, .inl rfl, .inl rfl, by simp [idsOf]⟩
    cases q1 : decide ((i : Int) < (a.length : Int)) <;> simp only [go_sem, ↓reduceIte, Nat.reduceEqDiff, reduceCtorEq, Nat.reduceAdd, Nat.reduceLeDiff, Nat.reduceMul, k0, k1, k4, k5, k6, q1, sb.len, buildK, fillL, exps]
    cases q2 : decide ((i : Int) < (b.length : Int)) <;> simp only [go_sem, ↓reduceIte, Nat.reduceEqDiff, reduceCtorEq, Nat.reduceAdd, Nat.reduceLeDiff, Nat.reduceMul, k0, k1, k4, k5, k6, q2, sa.len, sb.len, buildK, fillL, exps, q1]
    · have e1 := of_decide_eq_false q1
      have e2 := of_decide_eq_false q2
      have : i = max a.length b.length := by omega
      subst this
      exact ⟨kH, wv, l, rfl, kg, kl⟩
    · have hib : i < b.length := by have := of_decide_eq_true q2; omega
      have hia' : ¬ i < a.length := by have := of_decide_eq_false q1; omega
      have ea := uOf_no hia'
      have hm : mgG a b i = (rsn (uOf b i), rsn (sOf b i)) := by unfold mgG; rw [ea.1, ea.2]; rfl
      refine go_then (MgSt s.H va vb wv i (mgG a b i).1 (mgG a b i).2) ?_ ?_
      · obtain ⟨id, p, o, gu, gs, ho, g0, g1, hr, hp, hgu, hgs, hia⟩ := sb.group (List.getElem?_eq_getElem hib)
        rw [← (uOf_at hib).1] at hgu
        rw [← (uOf_at hib).2] at hgs
        have hid := (List.getElem?_eq_some_iff.1 ho).1
        have dlt : decide (id < s.H.length) = true := decide_eq_true hid
        have wS := kw
        refine go_draw2 s.H.length ?_
        simp only [go_sem, ↓reduceIte, Nat.reduceEqDiff, reduceCtorEq, Nat.reduceAdd, Nat.reduceLeDiff, Nat.reduceMul, k0, k1, k4, k5, k6, k0, hia, ho, g0, g1, dlt]
        refine callT_to (fun m' h => f82 K0.1 hgu List.Pairwise.nil (by rw [List.length_nil]; omega) h) rfl wS fun r1 H1 ⟨p1, s1', o1⟩ => ?_
        have ho1 : H1[id]? = some o := by rw [pre_get p1 hid]; exact ho
        simp only [go_sem, ↓reduceIte, Nat.reduceEqDiff, reduceCtorEq, Nat.reduceAdd, Nat.reduceLeDiff, Nat.reduceMul, k0, k1, k4, k5, k6, k0, hia, ho1, g0, g1, dlt]
        refine callT_to (fun m' h => f82 (K0.2.1.pre p1) (hgs.pre p1) List.Pairwise.nil (by rw [List.length_nil]; omega) h) rfl (wS.pre p1) fun r2 H2 ⟨p2, s2', o2⟩ => ?_
        have n1 := p1.length_le
        have n2 := (List.prefix_refl s.H).length_le
        simp only [go_sem, ↓reduceIte, Nat.reduceEqDiff, reduceCtorEq, Nat.reduceAdd, Nat.reduceLeDiff, Nat.reduceMul, k0, k1, k4, k5, k6, k0, buildK, fillL, exps, s1'.vc, s2'.vc]
        refine ⟨by rfl, (List.prefix_refl s.H).trans (p1.trans p2), by simp [upd, k0], by simp [upd, k1], by simp [upd, k4], by simp [upd, k5], by simp [upd, k6], s.gn, r1, r2, by simp [upd], ?_⟩
        refine ⟨by rw [hm]; exact s1'.pre p2, by rw [hm]; exact s2', o1.mono (by omega), o2.mono (by omega), fun j hj hm => ?_⟩
        have := s1'.ids j hj
        have := own_ge o2 j hm
        omega
      · rintro t ⟨tH, t0, t1, t4, t5, t6, gb, x, y, t7, tt⟩
        obtain ⟨v3, H3, d1, d2, d3⟩ := kg.push2 (m := m) kH.length_le tH tt hw hnr (by omega)
        simp only [go_sem, ↓reduceIte, Nat.reduceEqDiff, reduceCtorEq, Nat.reduceAdd, Nat.reduceLeDiff, Nat.reduceMul, t0, t1, t4, t5, t6, t7]
        rw [d1]
        rotate_left
        · rfl
        · rfl
        · rfl
        simp only [go_sem, ↓reduceIte, Nat.reduceEqDiff, reduceCtorEq, Nat.reduceAdd, Nat.reduceLeDiff, Nat.reduceMul, t0, t1, t4, t5, t6, t7, w1]
        exact ⟨by omega, d3 H (Nat.le_refl _) (kH.trans tH), by simp, v3, _, rfl, d2, by rw [List.map_append, List.map_append, kl]; rfl⟩
    · simp only [go_sem, ↓reduceIte, Nat.reduceEqDiff, reduceCtorEq, Nat.reduceAdd, Nat.reduceLeDiff, Nat.reduceMul, sa.len, sb.len, q1]
      have hil : i < a.length := by have := of_decide_eq_true q1; omega
      refine go_then (MgSt s.H va vb wv i (rsn (uOf a i)) (rsn (sOf a i))) ?_ ?_
      · obtain ⟨id, p, o, gu, gs, ho, g0, g1, hr, hp, hgu, hgs, hia⟩ := sa.group (List.getElem?_eq_getElem hil)
        rw [← (uOf_at hil).1] at hgu
        rw [← (uOf_at hil).2] at hgs
        have hid := (List.getElem?_eq_some_iff.1 ho).1
        have dlt : decide (id < s.H.length) = true := decide_eq_true hid
        have wS := kw
        refine go_draw2 s.H.length ?_
        simp only [go_sem, ↓reduceIte, Nat.reduceEqDiff, reduceCtorEq, Nat.reduceAdd, Nat.reduceLeDiff, Nat.reduceMul, k0, k1, k4, k5, k6, k0, hia, ho, g0, g1, dlt]
        refine callT_to (fun m' h => f82 K0.1 hgu List.Pairwise.nil (by rw [List.length_nil]; omega) h) rfl wS fun r1 H1 ⟨p1, s1', o1⟩ => ?_
        have ho1 : H1[id]? = some o := by rw [pre_get p1 hid]; exact ho
        simp only [go_sem, ↓reduceIte, Nat.reduceEqDiff, reduceCtorEq, Nat.reduceAdd, Nat.reduceLeDiff, Nat.reduceMul, k0, k1, k4, k5, k6, k0, hia, ho1, g0, g1, dlt]
        refine callT_to (fun m' h => f82 (K0.2.1.pre p1) (hgs.pre p1) List.Pairwise.nil (by rw [List.length_nil]; omega) h) rfl (wS.pre p1) fun r2 H2 ⟨p2, s2', o2⟩ => ?_
        have n1 := p1.length_le
        have n2 := (List.prefix_refl s.H).length_le
        simp only [go_sem, ↓reduceIte, Nat.reduceEqDiff, reduceCtorEq, Nat.reduceAdd, Nat.reduceLeDiff, Nat.reduceMul, k0, k1, k4, k5, k6, k0, buildK, fillL, exps, s1'.vc, s2'.vc]
        refine ⟨by rfl, (List.prefix_refl s.H).trans (p1.trans p2), by simp [upd, k0], by simp [upd, k1], by simp [upd, k4], by simp [upd, k5], by simp [upd, k6], s.gn, r1, r2, by simp [upd], ?_⟩
        refine ⟨s1'.pre p2, s2', o1.mono (by omega), o2.mono (by omega), fun j hj hm => ?_⟩
        have := s1'.ids j hj
        have := own_ge o2 j hm
        omega
      · rintro t ⟨tH, t0, t1, t4, t5, t6, gb, x, y, t7, tt⟩
        have sbt := sb.preG tH
        simp only [go_sem, ↓reduceIte, Nat.reduceEqDiff, reduceCtorEq, Nat.reduceAdd, Nat.reduceLeDiff, Nat.reduceMul, t0, t1, t4, t5, t6, t7, sbt.len]
        cases q2 : decide ((i : Int) < (b.length : Int)) <;> simp only [go_sem, ↓reduceIte, Nat.reduceEqDiff, reduceCtorEq, Nat.reduceAdd, Nat.reduceLeDiff, Nat.reduceMul, t0, t1, t4, t5, t6, t7, q2]
        · have hib' : ¬ i < b.length := by have := of_decide_eq_false q2; omega
          have eb := uOf_no hib'
          have hm : mgG a b i = (rsn (uOf a i), rsn (sOf a i)) := by unfold mgG; rw [eb.1, eb.2, List.append_nil, List.append_nil]
          obtain ⟨v3, H3, d1, d2, d3⟩ := kg.push2 (m := m) kH.length_le tH tt hw hnr (by omega)
          rw [d1]
          rotate_left
          · rfl
          · rfl
          · rfl
          simp only [go_sem, ↓reduceIte, Nat.reduceEqDiff, reduceCtorEq, Nat.reduceAdd, Nat.reduceLeDiff, Nat.reduceMul, t0, t1, t4, t5, t6, t7, w1]
          exact ⟨by omega, d3 H (Nat.le_refl _) (kH.trans tH), by simp, v3, _, rfl, d2, by rw [List.map_append, List.map_append, kl]; show _ = _ ++ [mgG a b i]; rw [hm]; rfl⟩
        · have hib : i < b.length := by have := of_decide_eq_true q2; omega
          refine go_then (MgSt s.H va vb wv i (mgG a b i).1 (mgG a b i).2) ?_ ?_
          · have r1l := rsn_le (uOf a i)
            have r2l := rsn_le (sOf a i)
            obtain ⟨id, p, o, gu, gs, ho, g0, g1, hr, hp, hgu, hgs, hia⟩ := sbt.group (List.getElem?_eq_getElem hib)
            rw [← (uOf_at hib).1] at hgu
            rw [← (uOf_at hib).2] at hgs
            have hid := (List.getElem?_eq_some_iff.1 ho).1
            have dlt : decide (id < t.H.length) = true := decide_eq_true hid
            have wS := hw.pre (kH.trans tH)
            refine go_draw2 t.H.length ?_
            simp only [go_sem, ↓reduceIte, Nat.reduceEqDiff, reduceCtorEq, Nat.reduceAdd, Nat.reduceLeDiff, Nat.reduceMul, t0, t1, t4, t5, t6, t7, hia, ho, g0, g1, dlt]
            refine callT_to (fun m' h => f82 tt.1 hgu (rsn_asc _) (by omega) h) rfl wS fun r1 H1 ⟨p1, s1', o1⟩ => ?_
            have ho1 : H1[id]? = some o := by rw [pre_get p1 hid]; exact ho
            simp only [go_sem, ↓reduceIte, Nat.reduceEqDiff, reduceCtorEq, Nat.reduceAdd, Nat.reduceLeDiff, Nat.reduceMul, t0, t1, t4, t5, t6, t7, hia, ho1, g0, g1, dlt]
            refine callT_to (fun m' h => f82 (tt.2.1.pre p1) (hgs.pre p1) (rsn_asc _) (by omega) h) rfl (wS.pre p1) fun r2 H2 ⟨p2, s2', o2⟩ => ?_
            have n1 := p1.length_le
            have n2 := tH.length_le
            simp only [go_sem, ↓reduceIte, Nat.reduceEqDiff, reduceCtorEq, Nat.reduceAdd, Nat.reduceLeDiff, Nat.reduceMul, t0, t1, t4, t5, t6, t7, buildK, fillL, exps, s1'.vc, s2'.vc]
            refine ⟨by rfl, tH.trans (p1.trans p2), by simp [upd, t0], by simp [upd, t1], by simp [upd, t4], by simp [upd, t5], by simp [upd, t6], gb, r1, r2, by simp [upd], ?_⟩
            refine ⟨by rw [show (mgG a b i).1 = rsn (rsn (uOf a i) ++ uOf b i) from (rsn_both _ _).symm]; exact s1'.pre p2, by rw [show (mgG a b i).2 = rsn (rsn (sOf a i) ++ sOf b i) from (rsn_both _ _).symm]; exact s2', o1.mono (by omega), o2.mono (by omega), fun j hj hm => ?_⟩
            have := s1'.ids j hj
            have := own_ge o2 j hm
            omega
          · clear t0 t1 t4 t5 t6 t7 tt sbt
            have tH0 := tH
            rintro t ⟨tH, t0, t1, t4, t5, t6, gb, x, y, t7, tt⟩
            obtain ⟨v3, H3, d1, d2, d3⟩ := kg.push2 (m := m) kH.length_le tH tt hw hnr (by omega)
            simp only [go_sem, ↓reduceIte, Nat.reduceEqDiff, reduceCtorEq, Nat.reduceAdd, Nat.reduceLeDiff, Nat.reduceMul, t0, t1, t4, t5, t6, t7]
            rw [d1]
            rotate_left
            · rfl
            · rfl
            · rfl
            simp only [go_sem, ↓reduceIte, Nat.reduceEqDiff, reduceCtorEq, Nat.reduceAdd, Nat.reduceLeDiff, Nat.reduceMul, t0, t1, t4, t5, t6, t7, w1]
            exact ⟨by omega, d3 H (Nat.le_refl _) (kH.trans tH), by simp, v3, _, rfl, d2, by rw [List.map_append, List.map_append, kl]; rfl⟩
  · rintro s ⟨kH, k4, wv, l, k5, kg, kl⟩
    simp only [go_sem, ↓reduceIte, Nat.reduceEqDiff, reduceCtorEq, Nat.reduceAdd, Nat.reduceLeDiff, Nat.reduceMul, k4, k5]
    exact ⟨kH, l, kg, kl⟩
end Go.Proofs.Ytdplmjlbkaipiaa.Ev

/- Groups put together, the program's way. -/
namespace Go.Proofs.Ytdplmjlbkaipiaa.Ev
set_option linter.all false
open Go
set_option maxRecDepth 4000

def pa (j : Nat) (p q : List Int) : List Int := (if 1 ≤ j then p else []) ++ (if 2 ≤ j then q else [])
theorem Sl.two {H : Hp} {x y : Value} : Sl (En fun v : Value => [v]) 1 (H ++ [[x, y]]) (.slice (some ⟨H.length, 0, some 1⟩) 2 2) [x, y] :=
  .inr ⟨H.length, 0, 2, [x, y], rfl, by simp, by simp, by simp, by simp, fun i a hi => by
    match i, hi with
    | 0, hi => simp at hi; subst hi; rfl
    | 1, hi => simp at hi; subst hi; rfl
    | i + 2, hi => simp at hi⟩
theorem pa_le (j : Nat) (p q : List Int) : (pa j p q).length ≤ p.length + q.length := by
  unfold pa
  rw [List.length_append]
  split <;> split <;> simp
theorem Two.mono {N N' : Nat} {H : Hp} {x y : Value} {p q : List Int} (h : Two N H x y p q) (hn : N' ≤ N) : Two N' H x y p q := ⟨h.1, h.2.1, h.2.2.1.mono hn, h.2.2.2.1.mono hn, h.2.2.2.2⟩
/-- Both rows made to rise. -/
theorem Two.cmp {N : Nat} {H H1 H2 : Hp} {x y r1 r2 : Value} {p q p' q' : List Int} (h : Two N H x y p q) (c1 : Cmp H x p' r1 H1) (c2 : Cmp H1 y q' r2 H2) : Two N H2 r1 r2 p' q' ∧ (∀ j, j < N → H2[j]? = H[j]?) ∧ H2.length = H.length := by
  obtain ⟨s1, o1, f1, n1, i1⟩ := c1
  obtain ⟨s2, o2, f2, n2, i2⟩ := c2
  have hd := h.2.2.2.2
  refine ⟨⟨s1.frame (fun _ _ _ h => h) (fun id off e ln cap hv => f2 id (hd id (i1 id (by subst hv; simp [idsOf])))), s2, o1 _ h.2.2.1, o2 _ h.2.2.2.1, fun j hj hm => hd j (i1 j hj) (i2 j hm)⟩, fun j hj => ?_, by omega⟩
  rw [f2 j (own_notin h.2.2.2.1 hj), f1 j (own_notin h.2.2.1 hj)]
theorem f51 {m : Md} {H : Hp} {va vb : Value} {a b : List Group} (ha : SlG H va a) (hb : SlG H vb b) (hw : Wr m H) (hnr : m.nr = false) : Fun EE m 51 [va, vb] H fun r H' => FreshX H r H' (mergeL a b) := by
  refine fun_f rfl rfl k51 (by simp [c51]) ?_
  have p0 : H <+: H ++ [[]] := List.prefix_append _ _
  have w0 := hw.pre p0
  have g0 : GL H.length (H ++ [[]]) (.slice (some ⟨H.length, 0, some 2⟩) 0 (0 * 2)) [] := GL.new
  generalize hwv : Value.slice (some ⟨H.length, 0, some 2⟩) 0 (0 * 2) = wv0 at g0
  have ha0 := ha.preG p0
  have hb0 := hb.preG p0
  have aa := fun {m draw s d ts Q} => callT_at (m := m) (draw := draw) (s := s) (d := d) (ts := ts) (Q := Q) (f41 ha0)
  have ab := fun {m draw s d ts Q} => callT_at (m := m) (draw := draw) (s := s) (d := d) (ts := ts) (Q := Q) (f41 hb0)
  have nope : ¬ (groupsOk a = true ∧ groupsOk b = true) → FreshX H wv0 (H ++ [[]]) (mergeL a b) := fun h => by
    rw [mergeL_no h]
    exact ⟨p0, [], g0, rfl⟩
  simp only [go_sem, ↓reduceIte, Nat.reduceEqDiff, reduceCtorEq, Nat.reduceAdd, Nat.reduceLeDiff, Nat.reduceMul, c51, fillL, hwv, aa, w0]
  cases hoa : groupsOk a <;> simp only [go_sem, ↓reduceIte, Nat.reduceEqDiff, reduceCtorEq, Nat.reduceAdd, Nat.reduceLeDiff, Nat.reduceMul, hoa, ab, w0]
  · exact nope (fun h => by rw [hoa] at h; cases h.1)
  cases hob : groupsOk b <;> simp only [go_sem, ↓reduceIte, Nat.reduceEqDiff, reduceCtorEq, Nat.reduceAdd, Nat.reduceLeDiff, Nat.reduceMul, hob]
  · exact nope (fun h => by rw [hob] at h; cases h.2)
  rw [mergeL_yes ⟨hoa, hob⟩]
  have la := (groupsOk_in hoa).1
  have lb := (groupsOk_in hob).1
  have hmx : (if (b.length : Int) > (a.length : Int) then (b.length : Int) else (a.length : Int)) = ((max a.length b.length : Nat) : Int) := by split <;> omega
  simp only [go_sem, ↓reduceIte, Nat.reduceEqDiff, reduceCtorEq, Nat.reduceAdd, Nat.reduceLeDiff, Nat.reduceMul, ha0.len, hb0.len, mxK, hmx]
  generalize hM : max a.length b.length = M
  have hM8 : M ≤ 8 := by omega
  refine go_for M (fun i s => H <+: s.H ∧ s.ρ 0 = .val va ∧ s.ρ 1 = .val vb ∧ s.ρ 4 = .val (.slice none 0 0) ∧ s.ρ 24 = .val (.int .i64 M) ∧ s.ρ 25 = .val (.int .i64 i) ∧ ∃ wv l, s.ρ 5 = .val wv ∧ GL H.length s.H wv l ∧ l.map (·.1) = (List.range i).map (mgG a b))
    (fun s => H <+: s.H ∧ s.ρ 4 = .val (.slice none 0 0) ∧ ∃ wv l, s.ρ 5 = .val wv ∧ GL H.length s.H wv l ∧ l.map (·.1) = (List.range M).map (mgG a b)) ?_ ?_ ?_
  · exact ⟨p0, by simp [upd, ini], by simp [upd, ini], by simp [upd], by simp [upd], by simp [upd], wv0, [], by simp [upd], g0, rfl⟩
  · rintro i s hi ⟨kH, k0, k1, k4, k24, k25, wv, l, k5, kg, kl⟩
    have kw := hw.pre kH
    have hll : l.length = i := by have := congrArg List.length kl; simpa using this
    have w1 := wrap64 ((i : Int) + 1) (by omega) (by omega)
    have oka := ok_of hoa i
    have okb := ok_of hob i
    simp only [go_sem, ↓reduceIte, Nat.reduceEqDiff, reduceCtorEq, Nat.reduceAdd, Nat.reduceLeDiff, Nat.reduceMul, k0, k1, k4, k5, k24, k25]
    cases q1 : decide ((i : Int) < (M : Int)) <;> simp only [go_sem, ↓reduceIte, Nat.reduceEqDiff, reduceCtorEq, Nat.reduceAdd, Nat.reduceLeDiff, Nat.reduceMul, k0, k1, k4, k5, k24, k25, q1, buildK, fillL, exps]
    · have : i = M := by have := of_decide_eq_false q1; omega
      subst this
      exact ⟨kH, wv, l, rfl, kg, kl⟩
    have hiM : i < M := by have := of_decide_eq_true q1; omega
    have pN : s.H <+: s.H ++ [[va, vb]] := List.prefix_append _ _
    simp only [go_sem, ↓reduceIte, Nat.reduceEqDiff, reduceCtorEq, Nat.reduceAdd, Nat.reduceLeDiff, Nat.reduceMul, k0, k1, ha.vc, hb.vc]
    have hTwo : Sl (En fun v : Value => [v]) 1 (s.H ++ [[va, vb]]) (.slice (some ⟨s.H.length, 0, some 1⟩) 2 2) [va, vb] := Sl.two
    have sa := (ha.preG kH).preG pN
    have sb := (hb.preG kH).preG pN
    have wN := kw.pre pN
    generalize hN' : s.H ++ [[va, vb]] = N' at hTwo pN sa sb wN
    have nN : N'.length = s.H.length + 1 := by rw [← hN']; simp
    generalize hsl : Value.slice (some ⟨s.H.length, 0, some 1⟩) 2 2 = sl at hTwo
    simp only [go_sem, ↓reduceIte, Nat.reduceEqDiff, reduceCtorEq, Nat.reduceAdd, Nat.reduceLeDiff, Nat.reduceMul, hTwo.len]
    refine go_for 2 (fun j t => N' <+: t.H ∧ t.ρ 0 = .val va ∧ t.ρ 1 = .val vb ∧ t.ρ 4 = .val (.slice none 0 0) ∧ t.ρ 24 = .val (.int .i64 M) ∧ t.ρ 25 = .val (.int .i64 i) ∧ t.ρ 5 = .val wv ∧ t.ρ 6 = .val (.int .i64 i) ∧ t.ρ 31 = .val sl ∧ t.ρ 32 = .val (.int .i64 2) ∧ t.ρ 33 = .val (.int .i64 j) ∧ ∃ x y, t.ρ 7 = .bx s.gn [x, y] ∧ Two N'.length t.H x y (pa j (uOf a i) (uOf b i)) (pa j (sOf a i) (sOf b i)))
      (fun t => N' <+: t.H ∧ t.ρ 0 = .val va ∧ t.ρ 1 = .val vb ∧ t.ρ 4 = .val (.slice none 0 0) ∧ t.ρ 24 = .val (.int .i64 M) ∧ t.ρ 25 = .val (.int .i64 i) ∧ t.ρ 5 = .val wv ∧ ∃ x y, t.ρ 7 = .bx s.gn [x, y] ∧ Two N'.length t.H x y (uOf a i ++ uOf b i) (sOf a i ++ sOf b i)) ?_ ?_ ?_
    · exact ⟨List.prefix_refl _, by simp [upd, k0], by simp [upd, k1], by simp [upd, k4], by simp [upd, k24], by simp [upd, k25], by simp [upd, k5], by simp [upd], by simp [upd], by simp [upd], by simp [upd], .slice none 0 0, .slice none 0 0, by simp [upd], .inl ⟨rfl, rfl⟩, .inl ⟨rfl, rfl⟩, .inl rfl, .inl rfl, by simp [idsOf]⟩
    · rintro j t hj ⟨tH, t0, t1, t4, t24, t25, t5, t6, t31, t32, t33, x, y, t7, tt⟩
      simp only [go_sem, ↓reduceIte, Nat.reduceEqDiff, reduceCtorEq, Nat.reduceAdd, Nat.reduceLeDiff, Nat.reduceMul, t0, t1, t4, t24, t25, t5, t6, t31, t32, t33, t7]
      cases q2 : decide ((j : Int) < 2) <;> simp only [go_sem, ↓reduceIte, Nat.reduceEqDiff, reduceCtorEq, Nat.reduceAdd, Nat.reduceLeDiff, Nat.reduceMul, t0, t1, t4, t24, t25, t5, t6, t31, t32, t33, t7, q2]
      · have : j = 2 := by have := of_decide_eq_false q2; omega
        subst this
        exact ⟨tH, x, y, rfl, tt⟩
      have hj2 : j < 2 := by have := of_decide_eq_true q2; omega
      have hT : ∃ tv tl, [va, vb][j]? = some tv ∧ SlG N' tv tl ∧ (uOf tl i).length ≤ 31 ∧ (sOf tl i).length ≤ 8 ∧ pa (j + 1) (uOf a i) (uOf b i) = pa j (uOf a i) (uOf b i) ++ uOf tl i ∧ pa (j + 1) (sOf a i) (sOf b i) = pa j (sOf a i) (sOf b i) ++ sOf tl i := by
        match j, hj2 with
        | 0, _ => exact ⟨va, a, rfl, sa, oka.2.2.1, oka.2.2.2, by simp [pa], by simp [pa]⟩
        | 1, _ => exact ⟨vb, b, rfl, sb, okb.2.2.1, okb.2.2.2, by simp [pa], by simp [pa]⟩
      obtain ⟨tv, tl, hg, sT, lu, ls, eu, es⟩ := hT
      obtain ⟨id, p, o, ho, hr, hp, hia⟩ := (hTwo.pre tH).elem hg
      have hr : (o.drop p).take 1 = [tv] := hr
      have g0 : o[p]? = some tv := by simpa using getElem?_of_take hr (j := 0) (by omega)
      have w2 := wrap64 ((j : Int) + 1) (by omega) (by omega)
      have sTt := sT.preG tH
      have lpu := pa_le j (uOf a i) (uOf b i)
      have lps := pa_le j (sOf a i) (sOf b i)
      simp only [go_sem, ↓reduceIte, Nat.reduceEqDiff, reduceCtorEq, Nat.reduceAdd, Nat.reduceLeDiff, Nat.reduceMul, t0, t1, t4, t24, t25, t5, t6, t31, t32, t33, t7, hia, ho, g0, sTt.len]
      cases q3 : decide ((i : Int) < (tl.length : Int)) <;> simp only [go_sem, ↓reduceIte, Nat.reduceEqDiff, reduceCtorEq, Nat.reduceAdd, Nat.reduceLeDiff, Nat.reduceMul, t0, t1, t4, t24, t25, t5, t6, t31, t32, t33, t7, q3, w2]
      · have e := uOf_no (l := tl) (i := i) (by have := of_decide_eq_false q3; omega)
        rw [e.1, List.append_nil] at eu
        rw [e.2, List.append_nil] at es
        exact ⟨hj2, tH, by simp, x, y, rfl, by rw [eu, es]; exact tt⟩
      have hil : i < tl.length := by have := of_decide_eq_true q3; omega
      obtain ⟨id2, p2, o2, gu, gs, ho2, h0, h1, hr2, hp2, hgu, hgs, hia2⟩ := sTt.group (List.getElem?_eq_getElem hil)
      rw [← (uOf_at hil).1] at hgu
      rw [← (uOf_at hil).2] at hgs
      have hid2 := (List.getElem?_eq_some_iff.1 ho2).1
      obtain ⟨sx, sy, ox, oy, hd⟩ := tt
      have wN' : ∀ id, N'.length ≤ id → m.wr id = true := wN
      obtain ⟨x', H1, a1, a2, a3, a4, a5, a6, a7⟩ := sx.joinI (m := m) hgu ox tH.length_le wN' (by omega)
      have r1 := a7 N' (Nat.le_refl _) tH
      have sy1 := sy.aside (fun j hj hm => hd j hm hj) a4
      refine go_draw ?_
      simp only [go_sem, ↓reduceIte, Nat.reduceEqDiff, reduceCtorEq, Nat.reduceAdd, Nat.reduceLeDiff, Nat.reduceMul, t0, t1, t4, t24, t25, t5, t6, t31, t32, t33, t7, hia2, ho2, h0, h1]
      rw [a1]
      rotate_left
      · rfl
      · rfl
      · rfl
      simp only [go_sem, ↓reduceIte, Nat.reduceEqDiff, reduceCtorEq, Nat.reduceAdd, Nat.reduceLeDiff, Nat.reduceMul, t0, t1, t4, t24, t25, t5, t6, t31, t32, t33, t7, a2.vc]
      refine ⟨by rfl, ?_⟩
      obtain ⟨id3, p3, o3, gu3, gs3, ho3, h03, h13, hr3, hp3, hgu3, hgs3, hia3⟩ := (sT.preG r1).group (List.getElem?_eq_getElem hil)
      rw [← (uOf_at hil).2] at hgs3
      obtain ⟨y', H2, b1, b2, b3, b4, b5, b6, b7⟩ := sy1.joinI (m := m) hgs3 oy r1.length_le wN' (by omega)
      have r2 := b7 N' (Nat.le_refl _) r1
      have hdd : ∀ j ∈ idsOf x', j ∉ idsOf y := fun j hj hm => by
        rcases a6 j hj with h | h
        · exact hd j h hm
        · have := sy.ids j hm
          omega
      refine go_draw ?_
      simp only [go_sem, ↓reduceIte, Nat.reduceEqDiff, reduceCtorEq, Nat.reduceAdd, Nat.reduceLeDiff, Nat.reduceMul, t0, t1, t4, t24, t25, t5, t6, t31, t32, t33, t7, hia3, ho3, h03, h13]
      rw [b1]
      rotate_left
      · rfl
      · rfl
      · rfl
      simp only [go_sem, ↓reduceIte, Nat.reduceEqDiff, reduceCtorEq, Nat.reduceAdd, Nat.reduceLeDiff, Nat.reduceMul, t0, t1, t4, t24, t25, t5, t6, t31, t32, t33, t7, w2, b2.vc]
      refine ⟨by rfl, hj2, r2, by simp, x', y', rfl, ?_⟩
      rw [eu, es]
      refine ⟨a2.aside hdd b4, b2, a3, b3, fun j hj hm => ?_⟩
      rcases b6 j hm with h | h
      · exact hdd j hj h
      · have := a2.ids j hj
        omega
    · rintro t ⟨tH, t0, t1, t4, t24, t25, t5, x, y, t7, tt⟩
      have hwo : ∀ id ∈ idsOf x ++ idsOf y, m.wr id = true := fun id hid => wN id (tt.ge id hid).1
      refine go_draw ?_
      simp only [go_sem, ↓reduceIte, Nat.reduceEqDiff, reduceCtorEq, Nat.reduceAdd, Nat.reduceLeDiff, Nat.reduceMul, t0, t1, t4, t24, t25, t5, t7]
      refine callT_arg (by rfl) (fun m' hm1 hm2 hm3 => f66 tt.1 (by rw [List.length_append]; omega) (fun id hid => hm2 id (by simpa using hid) (hwo id (List.mem_append_left _ hid)))) rfl (wN.pre tH) fun r1 H1 c1 => ?_
      have sy1 : SlI H1 y (sOf a i ++ sOf b i) := tt.2.1.frame (fun _ _ _ h => h) (fun id off e ln cap hv => c1.2.2.1 id (fun hm => tt.2.2.2.2 id hm (by subst hv; simp [idsOf])))
      have n1 : H1.length = t.H.length := c1.2.2.2.1
      have wH1 : Wr m H1 := fun id hid => wN id (by have := tH.length_le; omega)
      simp only [go_sem, ↓reduceIte, Nat.reduceEqDiff, reduceCtorEq, Nat.reduceAdd, Nat.reduceLeDiff, Nat.reduceMul, t0, t1, t4, t24, t25, t5, t7]
      refine callT_arg (by rfl) (fun m' hm1 hm2 hm3 => f66 sy1 (by rw [List.length_append]; omega) (fun id hid => hm2 id (by simpa using hid) (hwo id (List.mem_append_right _ hid)))) rfl wH1 fun r2 H2 c2 => ?_
      obtain ⟨T2, fr2, n2⟩ := tt.cmp c1 c2
      have q2 : s.H <+: H2 := pre_keep (pN.trans tH) (fun j hj => fr2 j (by omega)) (by have := (pN.trans tH).length_le; omega)
      obtain ⟨v3, H3, d1, d2, d3⟩ := kg.push2 (m := m) kH.length_le q2 (T2.mono (by omega)) hw hnr (by omega)
      simp only [go_sem, ↓reduceIte, Nat.reduceEqDiff, reduceCtorEq, Nat.reduceAdd, Nat.reduceLeDiff, Nat.reduceMul, t0, t1, t4, t24, t25, t5, t7, buildK, fillL, exps, T2.1.vc, T2.2.1.vc]
      rw [d1]
      rotate_left
      · rfl
      · rfl
      · rfl
      simp only [go_sem, ↓reduceIte, Nat.reduceEqDiff, reduceCtorEq, Nat.reduceAdd, Nat.reduceLeDiff, Nat.reduceMul, t0, t1, t4, t24, t25, t5, t7, w1]
      exact ⟨by rfl, hiM, d3 H (Nat.le_refl _) (kH.trans q2), by simp, v3, _, rfl, d2, by rw [List.map_append, List.map_append, kl]; rfl⟩
  · rintro s ⟨kH, k4, wv, l, k5, kg, kl⟩
    simp only [go_sem, ↓reduceIte, Nat.reduceEqDiff, reduceCtorEq, Nat.reduceAdd, Nat.reduceLeDiff, Nat.reduceMul, k4, k5]
    exact ⟨kH, l, kg, kl⟩
end Go.Proofs.Ytdplmjlbkaipiaa.Ev
