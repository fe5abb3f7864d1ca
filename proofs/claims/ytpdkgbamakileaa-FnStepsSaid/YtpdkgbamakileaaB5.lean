/- Texts of this proof, laid one behind the other: what each shows stands at its head. -/
import Derived.Test.YtpdkgbamakileaaB4
import Derived.Test.YtpdkgbamakileaaB3
/- Code of the program's functions, as the small machine has it: written by mkcode.py. -/
namespace Go.Proofs.Ytpdkgbamakileaa.Ev
set_option linter.all false
open Go
def c7 : CF := ⟨204, (.seq (.reg false [⟨(some 2), .none, (.mov (.c (.bool false))), 0, []⟩]) (.seq (.seq (.reg false [⟨(some 31), .none, (.mov (.t 0)), 0, []⟩, ⟨(some 32), .none, (.call 31 [(.t 31)]), 1, []⟩]) (.cond (.t 32) (.seq (.reg false [⟨(some 2), .none, (.mov (.c (.bool true))), 0, []⟩]) .ret) .skip)) (.seq (.reg false [⟨(some 34), .none, (.mov (.t 0)), 0, []⟩, ⟨(some 35), .none, (.call 32 [(.t 34)]), 1, []⟩, ⟨(some 33), .none, (.mov (.t 35)), 2, []⟩, ⟨(some 36), .none, (.ext (.t 33) 0), 3, []⟩, ⟨(some 37), .none, (.ext (.t 33) 1), 4, []⟩, ⟨(some 3), .none, (.mov (.t 36)), 5, []⟩, ⟨(some 4), .none, (.mov (.t 37)), 6, []⟩]) (.seq (.reg false [⟨(some 39), .none, (.mov (.t 3)), 0, []⟩, ⟨(some 40), .none, (.mov (.t 4)), 1, []⟩, ⟨(some 41), .none, (.call 20 [(.t 39), (.t 40)]), 2, []⟩, ⟨(some 38), .none, (.mov (.t 41)), 3, []⟩, ⟨(some 42), .none, (.ext (.t 38) 0), 4, []⟩, ⟨(some 43), .none, (.ext (.t 38) 1), 5, []⟩, ⟨(some 44), .none, (.ext (.t 38) 2), 6, []⟩, ⟨(some 5), .none, (.mov (.t 42)), 7, []⟩, ⟨(some 6), .none, (.mov (.t 43)), 8, []⟩, ⟨(some 7), .none, (.mov (.t 44)), 9, []⟩]) (.seq (.reg false [⟨(some 46), .none, (.mov (.t 3)), 0, []⟩, ⟨(some 47), .none, (.mov (.t 4)), 1, []⟩, ⟨(some 48), .none, (.call 18 [(.t 46), (.t 47)]), 2, []⟩, ⟨(some 45), .none, (.mov (.t 48)), 3, []⟩, ⟨(some 49), .none, (.ext (.t 45) 0), 4, []⟩, ⟨(some 50), .none, (.ext (.t 45) 1), 5, []⟩, ⟨(some 51), .none, (.ext (.t 45) 2), 6, []⟩, ⟨(some 8), .none, (.mov (.t 49)), 7, []⟩, ⟨(some 9), .none, (.mov (.t 50)), 8, []⟩, ⟨(some 10), .none, (.mov (.t 51)), 9, []⟩]) (.seq (.seq (.reg false [⟨(some 52), .none, (.mov (.t 7)), 0, []⟩, ⟨(some 53), .none, (.mov (.t 10)), 1, []⟩, ⟨(some 54), .none, (.beq true (.t 52) (.t 53)), 2, []⟩, ⟨(some 55), .none, (.mov (.t 54)), 3, []⟩, ⟨(some 56), (.some (55, false)), (.mov (.t 6)), 4, []⟩, ⟨(some 57), (.some (55, false)), (.mov (.t 9)), 5, []⟩, ⟨(some 58), (.some (55, false)), (.bin .neq (.t 56) (.t 57)), 6, []⟩, ⟨(some 59), .none, (.pick (.t 55) (.c (.bool true)) (.t 58)), 7, []⟩]) (.cond (.t 59) (.seq (.reg false [⟨(some 2), .none, (.mov (.c (.bool false))), 0, []⟩]) .ret) .skip)) (.seq (.reg false [⟨(some 61), .none, (.mov (.t 0)), 0, []⟩, ⟨(some 62), .none, (.call 33 [(.t 61)]), 1, []⟩, ⟨(some 60), .none, (.mov (.t 62)), 2, []⟩, ⟨(some 63), .none, (.ext (.t 60) 0), 3, []⟩, ⟨(some 64), .none, (.ext (.t 60) 1), 4, []⟩, ⟨(some 65), .none, (.ext (.t 60) 2), 5, []⟩, ⟨(some 11), .none, (.mov (.t 63)), 6, []⟩, ⟨(some 12), .none, (.mov (.t 64)), 7, []⟩, ⟨(some 13), .none, (.mov (.t 65)), 8, []⟩]) (.seq (.reg false [⟨(some 67), .none, (.mov (.t 11)), 0, []⟩, ⟨(some 68), .none, (.mov (.t 12)), 1, []⟩, ⟨(some 69), .none, (.mov (.t 13)), 2, []⟩, ⟨(some 70), .none, (.call 29 [(.t 67), (.t 68), (.t 69)]), 3, []⟩, ⟨(some 66), .none, (.mov (.t 70)), 4, []⟩, ⟨(some 71), .none, (.ext (.t 66) 0), 5, []⟩, ⟨(some 72), .none, (.ext (.t 66) 1), 6, []⟩, ⟨(some 14), .none, (.mov (.t 71)), 7, []⟩, ⟨(some 15), .none, (.mov (.t 72)), 8, []⟩]) (.seq (.reg false [⟨(some 74), .none, (.mov (.t 11)), 0, []⟩, ⟨(some 75), .none, (.mov (.t 12)), 1, []⟩, ⟨(some 76), .none, (.mov (.t 13)), 2, []⟩, ⟨(some 77), .none, (.call 27 [(.t 74), (.t 75), (.t 76)]), 3, []⟩, ⟨(some 73), .none, (.mov (.t 77)), 4, []⟩, ⟨(some 78), .none, (.ext (.t 73) 0), 5, []⟩, ⟨(some 79), .none, (.ext (.t 73) 1), 6, []⟩, ⟨(some 16), .none, (.mov (.t 78)), 7, []⟩, ⟨(some 17), .none, (.mov (.t 79)), 8, []⟩]) (.seq (.seq (.reg false [⟨(some 80), .none, (.mov (.t 15)), 0, []⟩, ⟨(some 81), .none, (.mov (.t 17)), 1, []⟩, ⟨(some 82), .none, (.bin .neq (.t 80) (.t 81)), 2, []⟩]) (.cond (.t 82) (.seq (.reg false [⟨(some 2), .none, (.mov (.c (.bool false))), 0, []⟩]) .ret) .skip)) (.seq (.seq (.reg false [⟨(some 83), .none, (.mov (.t 7)), 0, []⟩, ⟨(some 84), .none, (.un .not (.t 83)), 1, []⟩]) (.cond (.t 84) (.seq (.reg false [⟨(some 85), .none, (.mov (.t 5)), 0, []⟩, ⟨(some 86), .none, (.lenS (.t 85)), 1, []⟩, ⟨(some 87), .none, (.bin .eql (.t 86) (.c (.int .i64 0))), 2, []⟩, ⟨(some 88), .none, (.mov (.t 87)), 3, []⟩, ⟨(some 89), (.some (88, true)), (.mov (.t 6)), 4, []⟩, ⟨(some 90), (.some (88, true)), (.bin .eql (.t 89) (.c (.string ⟨#[]⟩))), 5, []⟩, ⟨(some 91), .none, (.pick (.t 88) (.t 90) (.c (.bool false))), 6, []⟩, ⟨(some 2), .none, (.mov (.t 91)), 7, []⟩]) .ret) .skip)) (.seq (.reg false [⟨(some 93), .none, (.mov (.t 3)), 0, []⟩, ⟨(some 94), .none, (.mov (.t 5)), 1, []⟩, ⟨(some 95), .none, (.mov (.t 6)), 2, []⟩, ⟨(some 96), .none, (.call 29 [(.t 93), (.t 94), (.t 95)]), 3, []⟩, ⟨(some 92), .none, (.mov (.t 96)), 4, []⟩, ⟨(some 97), .none, (.ext (.t 92) 0), 5, []⟩, ⟨(some 98), .none, (.ext (.t 92) 1), 6, []⟩, ⟨(some 18), .none, (.mov (.t 97)), 7, []⟩, ⟨(some 19), .none, (.mov (.t 98)), 8, []⟩]) (.seq (.seq (.reg false [⟨(some 99), .none, (.mov (.t 19)), 0, []⟩, ⟨(some 100), .none, (.bin .neq (.t 99) (.c (.int .i64 0))), 1, []⟩, ⟨(some 101), .none, (.mov (.t 100)), 2, []⟩, ⟨(some 102), (.some (101, false)), (.mov (.t 18)), 3, []⟩, ⟨(some 103), (.some (101, false)), (.lenS (.t 102)), 4, []⟩, ⟨(some 104), (.some (101, false)), (.mov (.t 4)), 5, []⟩, ⟨(some 105), (.some (101, false)), (.lenS (.t 104)), 6, []⟩, ⟨(some 106), (.some (101, false)), (.bin .neq (.t 103) (.t 105)), 7, []⟩, ⟨(some 107), .none, (.pick (.t 101) (.c (.bool true)) (.t 106)), 8, []⟩]) (.cond (.t 107) (.seq (.reg false [⟨(some 2), .none, (.mov (.c (.bool false))), 0, []⟩]) .ret) .skip)) (.seq (.seq (.reg false [⟨(some 20), .none, (.mov (.c (.int .i64 0))), 0, []⟩]) (.block 0 (.loop (.seq (.seq (.reg false [⟨(some 108), .none, (.mov (.t 20)), 0, []⟩, ⟨(some 109), .none, (.mov (.t 4)), 1, []⟩, ⟨(some 110), .none, (.lenS (.t 109)), 2, []⟩, ⟨(some 111), .none, (.bin .lss (.t 108) (.t 110)), 3, []⟩]) (.cond (.t 111) .skip (.exit 0))) (.seq (.block 1 (.seq (.reg true [⟨(some 114), .none, (.mov (.t 18)), 0, []⟩, ⟨(some 115), .none, (.mov (.t 20)), 1, []⟩, ⟨(some 116), .none, (.iadr 3 (.t 114) (.t 115)), 2, [0, 1]⟩, ⟨(some 117), .none, (.load 3 true (.t 116)), 3, [2, 0, 1]⟩, ⟨(some 118), .none, (.mov (.t 4)), 4, []⟩, ⟨(some 119), .none, (.mov (.t 20)), 5, []⟩, ⟨(some 120), .none, (.iadr 3 (.t 118) (.t 119)), 6, [4, 5]⟩, ⟨(some 121), .none, (.load 3 true (.t 120)), 7, [6, 4, 5]⟩, ⟨(some 122), .none, (.aeq true [0, 0, 2] (.t 117) (.t 121)), 8, [3, 2, 0, 1, 7, 6, 4, 5]⟩]) (.cond (.t 122) (.seq (.reg false [⟨(some 2), .none, (.mov (.c (.bool false))), 0, []⟩]) .ret) .skip))) (.reg false [⟨(some 112), .none, (.mov (.t 20)), 0, []⟩, ⟨(some 113), .none, (.bin .add (.t 112) (.c (.int .i64 1))), 1, []⟩, ⟨(some 20), .none, (.mov (.t 113)), 2, []⟩])))))) (.seq (.seq (.reg false [⟨(some 123), .none, (.mov (.t 5)), 0, []⟩, ⟨(some 124), .none, (.lenS (.t 123)), 1, []⟩, ⟨(some 125), .none, (.bin .eql (.t 124) (.c (.int .i64 0))), 2, []⟩]) (.cond (.t 125) (.seq (.reg false [⟨(some 2), .none, (.mov (.c (.bool true))), 0, []⟩]) .ret) .skip)) (.seq (.reg false [⟨(some 126), .none, (.mov (.t 0)), 0, []⟩, ⟨(some 127), .none, (.call 34 [(.t 126), (.c (.int .i64 0))]), 1, []⟩, ⟨(some 128), .none, (.mov (.t 5)), 2, []⟩, ⟨(some 129), .none, (.lenS (.t 128)), 3, []⟩, ⟨(some 130), .none, (.bin .rem (.t 127) (.t 129)), 4, []⟩, ⟨(some 21), .none, (.mov (.t 130)), 5, []⟩]) (.seq (.reg true [⟨(some 132), .none, (.mov (.t 3)), 0, []⟩, ⟨(some 133), .none, (.mkO 0 1 [(.string ⟨#[]⟩)] []), 1, []⟩, ⟨(some 134), .none, (.mov (.t 5)), 2, []⟩, ⟨(some 135), .none, (.mov (.t 21)), 3, []⟩, ⟨(some 136), .none, (.slc 1 (.t 134) .none (.some (.t 135))), 4, [2, 3]⟩, ⟨(some 137), .none, (.app 1 16 (.t 133) (.t 136)), 5, [1, 4, 2, 3]⟩, ⟨(some 138), .none, (.mov (.t 5)), 6, []⟩, ⟨(some 139), .none, (.mov (.t 21)), 7, []⟩, ⟨(some 140), .none, (.bin .add (.t 139) (.c (.int .i64 1))), 8, [7]⟩, ⟨(some 141), .none, (.slc 1 (.t 138) (.some (.t 140)) .none), 9, [6, 8, 7]⟩, ⟨(some 142), .none, (.app 1 16 (.t 137) (.t 141)), 10, [5, 1, 4, 2, 3, 9, 6, 8, 7]⟩, ⟨(some 143), .none, (.mov (.t 6)), 11, []⟩, ⟨(some 144), .none, (.call 29 [(.t 132), (.t 142), (.t 143)]), 12, [0, 10, 5, 1, 4, 2, 3, 9, 6, 8, 7, 11]⟩, ⟨(some 131), .none, (.mov (.t 144)), 13, [12, 0, 10, 5, 1, 4, 2, 3, 9, 6, 8, 7, 11]⟩, ⟨(some 145), .none, (.ext (.t 131) 0), 14, [13, 12, 0, 10, 5, 1, 4, 2, 3, 9, 6, 8, 7, 11]⟩, ⟨(some 146), .none, (.ext (.t 131) 1), 15, [13, 12, 0, 10, 5, 1, 4, 2, 3, 9, 6, 8, 7, 11]⟩, ⟨(some 22), .none, (.mov (.t 145)), 16, [14, 13, 12, 0, 10, 5, 1, 4, 2, 3, 9, 6, 8, 7, 11]⟩, ⟨(some 23), .none, (.mov (.t 146)), 17, [15, 13, 12, 0, 10, 5, 1, 4, 2, 3, 9, 6, 8, 7, 11, 16, 14]⟩]) (.seq (.reg false [⟨(some 148), .none, (.mov (.t 3)), 0, []⟩, ⟨(some 149), .none, (.mov (.t 5)), 1, []⟩, ⟨(some 150), .none, (.mov (.t 21)), 2, []⟩, ⟨(some 151), .none, (.slc 1 (.t 149) .none (.some (.t 150))), 3, []⟩, ⟨(some 152), .none, (.mov (.t 6)), 4, []⟩, ⟨(some 153), .none, (.call 29 [(.t 148), (.t 151), (.t 152)]), 5, []⟩, ⟨(some 147), .none, (.mov (.t 153)), 6, []⟩, ⟨(some 154), .none, (.ext (.t 147) 0), 7, []⟩, ⟨(some 155), .none, (.ext (.t 147) 1), 8, []⟩, ⟨(some 24), .none, (.mov (.t 154)), 9, []⟩, ⟨(some 25), .none, (.mov (.t 155)), 10, []⟩]) (.seq (.reg true [⟨(some 157), .none, (.mov (.t 3)), 0, []⟩, ⟨(some 158), .none, (.mkO 0 1 [(.string ⟨#[]⟩)] []), 1, []⟩, ⟨(some 159), .none, (.mov (.t 5)), 2, []⟩, ⟨(some 160), .none, (.app 1 16 (.t 158) (.t 159)), 3, [1, 2]⟩, ⟨(some 161), .none, (.mov (.t 5)), 4, []⟩, ⟨(some 162), .none, (.mov (.t 21)), 5, []⟩, ⟨(some 163), .none, (.iadr 1 (.t 161) (.t 162)), 6, [4, 5]⟩, ⟨(some 164), .none, (.load 1 false (.t 163)), 7, [6, 4, 5]⟩, ⟨(some 165), .none, (.mkV 1 1 [(.string ⟨#[]⟩)] [(0, (.t 164))]), 8, [7, 6, 4, 5]⟩, ⟨(some 166), .none, (.app 1 16 (.t 160) (.t 165)), 9, [3, 1, 2, 8, 7, 6, 4, 5]⟩, ⟨(some 167), .none, (.mov (.t 6)), 10, []⟩, ⟨(some 168), .none, (.call 29 [(.t 157), (.t 166), (.t 167)]), 11, [0, 9, 3, 1, 2, 8, 7, 6, 4, 5, 10]⟩, ⟨(some 156), .none, (.mov (.t 168)), 12, [11, 0, 9, 3, 1, 2, 8, 7, 6, 4, 5, 10]⟩, ⟨(some 169), .none, (.ext (.t 156) 0), 13, [12, 11, 0, 9, 3, 1, 2, 8, 7, 6, 4, 5, 10]⟩, ⟨(some 170), .none, (.ext (.t 156) 1), 14, [12, 11, 0, 9, 3, 1, 2, 8, 7, 6, 4, 5, 10]⟩, ⟨(some 26), .none, (.mov (.t 169)), 15, [13, 12, 11, 0, 9, 3, 1, 2, 8, 7, 6, 4, 5, 10]⟩, ⟨(some 27), .none, (.mov (.t 170)), 16, [14, 12, 11, 0, 9, 3, 1, 2, 8, 7, 6, 4, 5, 10, 15, 13]⟩]) (.seq (.reg false [⟨(some 172), .none, (.mov (.t 3)), 0, []⟩, ⟨(some 173), .none, (.bin .add (.t 172) (.c (.int .i64 1))), 1, []⟩, ⟨(some 174), .none, (.mov (.t 5)), 2, []⟩, ⟨(some 175), .none, (.mov (.t 6)), 3, []⟩, ⟨(some 176), .none, (.call 29 [(.t 173), (.t 174), (.t 175)]), 4, []⟩, ⟨(some 171), .none, (.mov (.t 176)), 5, []⟩, ⟨(some 177), .none, (.ext (.t 171) 0), 6, []⟩, ⟨(some 178), .none, (.ext (.t 171) 1), 7, []⟩, ⟨(some 28), .none, (.mov (.t 177)), 8, []⟩, ⟨(some 29), .none, (.mov (.t 178)), 9, []⟩]) (.seq (.reg false [⟨(some 179), .none, (.mov (.t 21)), 0, []⟩, ⟨(some 180), .none, (.bin .add (.t 179) (.c (.int .i64 1))), 1, []⟩, ⟨(some 30), .none, (.mov (.t 180)), 2, []⟩]) (.seq (.seq (.reg false [⟨(some 181), .none, (.mov (.t 21)), 0, []⟩, ⟨(some 182), .none, (.mov (.t 5)), 1, []⟩, ⟨(some 183), .none, (.lenS (.t 182)), 2, []⟩, ⟨(some 184), .none, (.bin .sub (.t 183) (.c (.int .i64 1))), 3, []⟩, ⟨(some 185), .none, (.bin .eql (.t 181) (.t 184)), 4, []⟩]) (.cond (.t 185) (.reg false [⟨(some 30), .none, (.mov (.c (.int .i64 (-1)))), 0, []⟩]) .skip)) (.seq (.reg false [⟨(some 186), .none, (.mov (.t 23)), 0, []⟩, ⟨(some 187), .none, (.mov (.t 30)), 1, []⟩, ⟨(some 188), .none, (.bin .eql (.t 186) (.t 187)), 2, []⟩, ⟨(some 189), .none, (.mov (.t 188)), 3, []⟩, ⟨(some 190), (.some (189, true)), (.mov (.t 25)), 4, []⟩, ⟨(some 191), (.some (189, true)), (.bin .eql (.t 190) (.c (.int .i64 (-1)))), 5, []⟩, ⟨(some 192), .none, (.pick (.t 189) (.t 191) (.c (.bool false))), 6, []⟩, ⟨(some 193), .none, (.mov (.t 192)), 7, []⟩, ⟨(some 194), (.some (193, true)), (.mov (.t 27)), 8, []⟩, ⟨(some 195), (.some (193, true)), (.mov (.t 5)), 9, []⟩, ⟨(some 196), (.some (193, true)), (.lenS (.t 195)), 10, []⟩, ⟨(some 197), (.some (193, true)), (.bin .add (.t 196) (.c (.int .i64 1))), 11, []⟩, ⟨(some 198), (.some (193, true)), (.bin .eql (.t 194) (.t 197)), 12, []⟩, ⟨(some 199), .none, (.pick (.t 193) (.t 198) (.c (.bool false))), 13, []⟩, ⟨(some 200), .none, (.mov (.t 199)), 14, []⟩, ⟨(some 201), (.some (200, true)), (.mov (.t 29)), 15, []⟩, ⟨(some 202), (.some (200, true)), (.bin .eql (.t 201) (.c (.int .i64 1))), 16, []⟩, ⟨(some 203), .none, (.pick (.t 200) (.t 202) (.c (.bool false))), 17, []⟩, ⟨(some 2), .none, (.mov (.t 203)), 18, []⟩]) .ret))))))))))))))))))))))), [(.t 2)]⟩
theorem k7 : EE.fns 7 = some c7 := by kernel_rfl
def c31 : CF := ⟨6, (.seq (.reg false [⟨(some 2), .none, (.mov (.c (.bool false))), 0, []⟩]) (.seq (.reg false [⟨(some 3), .none, (.mov (.t 0)), 0, []⟩, ⟨(some 4), .none, (.lenS (.t 3)), 1, []⟩, ⟨(some 5), .none, (.bin .gtr (.t 4) (.c (.int .i64 1048576))), 2, []⟩, ⟨(some 2), .none, (.mov (.t 5)), 3, []⟩]) .ret)), [(.t 2)]⟩
theorem k31 : EE.fns 31 = some c31 := by kernel_rfl
def c65 : CF := ⟨32, (.seq (.reg false [⟨(some 2), .none, (.mov (.c (.pointer .none))), 0, []⟩]) (.seq (.reg false [⟨(some 5), .none, (.mov (.t 0)), 0, []⟩, ⟨(some 6), .none, (.lenS (.t 5)), 1, []⟩, ⟨(some 7), .none, (.bin .add (.c (.int .i64 10101)) (.t 6)), 2, []⟩, ⟨(some 3), .none, (.mov (.t 7)), 3, []⟩]) (.seq (.seq (.reg false [⟨(some 4), .none, (.mov (.c (.int .i64 0))), 0, []⟩]) (.block 0 (.loop (.seq (.seq (.reg false [⟨(some 8), .none, (.mov (.t 4)), 0, []⟩, ⟨(some 9), .none, (.mov (.t 0)), 1, []⟩, ⟨(some 10), .none, (.lenS (.t 9)), 2, []⟩, ⟨(some 11), .none, (.bin .lss (.t 8) (.t 10)), 3, []⟩, ⟨(some 12), .none, (.mov (.t 11)), 4, []⟩, ⟨(some 13), (.some (12, true)), (.mov (.t 4)), 5, []⟩, ⟨(some 14), (.some (12, true)), (.bin .lss (.t 13) (.c (.int .i64 4000))), 6, []⟩, ⟨(some 15), .none, (.pick (.t 12) (.t 14) (.c (.bool false))), 7, []⟩]) (.cond (.t 15) .skip (.exit 0))) (.seq (.block 1 (.reg false [⟨(some 18), .none, (.mov (.t 3)), 0, []⟩, ⟨(some 19), .none, (.bin .mul (.t 18) (.c (.int .i64 131))), 1, []⟩, ⟨(some 20), .none, (.mov (.t 0)), 2, []⟩, ⟨(some 21), .none, (.mov (.t 4)), 3, []⟩, ⟨(some 22), .none, (.iadr 1 (.t 20) (.t 21)), 4, []⟩, ⟨(some 23), .none, (.load 1 false (.t 22)), 5, []⟩, ⟨(some 24), .none, (.toInt .i64 (.t 23)), 6, []⟩, ⟨(some 25), .none, (.bin .add (.t 19) (.t 24)), 7, []⟩, ⟨(some 26), .none, (.bin .add (.t 25) (.c (.int .i64 7))), 8, []⟩, ⟨(some 27), .none, (.bin .and (.t 26) (.c (.int .i64 1073741823))), 9, []⟩, ⟨(some 3), .none, (.mov (.t 27)), 10, []⟩])) (.reg false [⟨(some 16), .none, (.mov (.t 4)), 0, []⟩, ⟨(some 17), .none, (.bin .add (.t 16) (.c (.int .i64 1))), 1, []⟩, ⟨(some 4), .none, (.mov (.t 17)), 2, []⟩])))))) (.seq (.reg false [⟨(some 28), .none, (.mov (.t 0)), 0, []⟩, ⟨(some 29), .none, (.mov (.t 3)), 1, []⟩, ⟨(some 30), .none, (.build [(.slice .none 0 0), (.int .i64 0), (.int .i64 0)] [(0, (1, (.t 28))), (2, (1, (.t 29)))]), 2, []⟩, ⟨(some 31), .none, (.boxO (.t 30)), 3, []⟩, ⟨(some 2), .none, (.mov (.t 31)), 4, []⟩]) .ret)))), [(.t 2)]⟩
theorem k65 : EE.fns 65 = some c65 := by kernel_rfl
def c66 : CF := ⟨12, (.seq (.reg false [⟨(some 4), .none, (.mov (.c (.int .i64 0))), 0, []⟩]) (.seq (.reg false [⟨(some 5), .none, (.mov (.t 1)), 0, []⟩, ⟨(some 6), .none, (.mov (.t 0)), 1, []⟩, ⟨(some 7), .none, (.mov (.t 1)), 2, []⟩, ⟨(some 8), .none, (.lenS (.t 7)), 3, []⟩, ⟨(some 9), .none, (.call 69 [(.t 6), (.t 8)]), 4, []⟩, ⟨(some 10), .none, (.iadr 1 (.t 5) (.t 9)), 5, []⟩, ⟨(some 11), .none, (.load 1 false (.t 10)), 6, []⟩, ⟨(some 4), .none, (.mov (.t 11)), 7, []⟩]) .ret)), [(.t 4)]⟩
theorem k66 : EE.fns 66 = some c66 := by kernel_rfl
def c68 : CF := ⟨9, (.seq (.reg false [⟨(some 4), .none, (.mov (.c (.bool false))), 0, []⟩]) (.seq (.reg false [⟨(some 5), .none, (.mov (.t 0)), 0, []⟩, ⟨(some 6), .none, (.mov (.t 1)), 1, []⟩, ⟨(some 7), .none, (.call 69 [(.t 5), (.t 6)]), 2, []⟩, ⟨(some 8), .none, (.bin .eql (.t 7) (.c (.int .i64 0))), 3, []⟩, ⟨(some 4), .none, (.mov (.t 8)), 4, []⟩]) .ret)), [(.t 4)]⟩
theorem k68 : EE.fns 68 = some c68 := by kernel_rfl
def c69 : CF := ⟨37, (.seq (.reg false [⟨(some 4), .none, (.mov (.c (.int .i64 0))), 0, []⟩]) (.seq (.seq (.reg false [⟨(some 9), .none, (.mov (.t 1)), 0, []⟩, ⟨(some 10), .none, (.bin .leq (.t 9) (.c (.int .i64 0))), 1, []⟩]) (.cond (.t 10) (.seq (.reg false [⟨(some 4), .none, (.mov (.c (.int .i64 0))), 0, []⟩]) .ret) .skip)) (.seq (.seq (.reg false [⟨(some 11), .none, (.mov (.t 1)), 0, []⟩, ⟨(some 12), .none, (.bin .leq (.t 11) (.c (.int .i64 256))), 1, []⟩]) (.cond (.t 12) (.seq (.reg false [⟨(some 13), .none, (.mov (.t 0)), 0, []⟩, ⟨(some 14), .none, (.call 107 [(.t 13)]), 1, []⟩, ⟨(some 15), .none, (.mov (.t 1)), 2, []⟩, ⟨(some 16), .none, (.bin .rem (.t 14) (.t 15)), 3, []⟩, ⟨(some 4), .none, (.mov (.t 16)), 4, []⟩]) .ret) .skip)) (.seq (.reg false [⟨(some 17), .none, (.mov (.t 0)), 0, []⟩, ⟨(some 18), .none, (.call 107 [(.t 17)]), 1, []⟩, ⟨(some 5), .none, (.mov (.t 18)), 2, []⟩]) (.seq (.reg false [⟨(some 19), .none, (.mov (.t 0)), 0, []⟩, ⟨(some 20), .none, (.call 107 [(.t 19)]), 1, []⟩, ⟨(some 6), .none, (.mov (.t 20)), 2, []⟩]) (.seq (.reg false [⟨(some 21), .none, (.mov (.t 0)), 0, []⟩, ⟨(some 22), .none, (.call 107 [(.t 21)]), 1, []⟩, ⟨(some 7), .none, (.mov (.t 22)), 2, []⟩]) (.seq (.reg false [⟨(some 23), .none, (.mov (.t 0)), 0, []⟩, ⟨(some 24), .none, (.call 107 [(.t 23)]), 1, []⟩, ⟨(some 8), .none, (.mov (.t 24)), 2, []⟩]) (.seq (.reg false [⟨(some 25), .none, (.mov (.t 5)), 0, []⟩, ⟨(some 26), .none, (.bin .mul (.t 25) (.c (.int .i64 16777216))), 1, []⟩, ⟨(some 27), .none, (.mov (.t 6)), 2, []⟩, ⟨(some 28), .none, (.bin .mul (.t 27) (.c (.int .i64 65536))), 3, []⟩, ⟨(some 29), .none, (.bin .add (.t 26) (.t 28)), 4, []⟩, ⟨(some 30), .none, (.mov (.t 7)), 5, []⟩, ⟨(some 31), .none, (.bin .mul (.t 30) (.c (.int .i64 256))), 6, []⟩, ⟨(some 32), .none, (.bin .add (.t 29) (.t 31)), 7, []⟩, ⟨(some 33), .none, (.mov (.t 8)), 8, []⟩, ⟨(some 34), .none, (.bin .add (.t 32) (.t 33)), 9, []⟩, ⟨(some 35), .none, (.mov (.t 1)), 10, []⟩, ⟨(some 36), .none, (.bin .rem (.t 34) (.t 35)), 11, []⟩, ⟨(some 4), .none, (.mov (.t 36)), 12, []⟩]) .ret)))))))), [(.t 4)]⟩
theorem k69 : EE.fns 69 = some c69 := by kernel_rfl
def c70 : CF := ⟨67, (.seq (.reg false [⟨(some 4), .none, (.mov (.c (.string ⟨#[]⟩))), 0, []⟩]) (.seq (.seq (.reg false [⟨(some 6), .none, (.mov (.t 1)), 0, []⟩, ⟨(some 7), .none, (.lenT (.t 6)), 1, []⟩, ⟨(some 8), .none, (.bin .eql (.t 7) (.c (.int .i64 0))), 2, []⟩]) (.cond (.t 8) (.seq (.reg false [⟨(some 9), .none, (.mov (.t 0)), 0, []⟩, ⟨(some 10), .none, (.call 106 [(.t 9), (.c (.int .i64 3))]), 1, []⟩, ⟨(some 4), .none, (.mov (.t 10)), 2, []⟩]) .ret) .skip)) (.seq (.reg false [⟨(some 11), .none, (.mov (.t 0)), 0, []⟩, ⟨(some 12), .none, (.mov (.t 1)), 1, []⟩, ⟨(some 13), .none, (.lenT (.t 12)), 2, []⟩, ⟨(some 14), .none, (.call 69 [(.t 11), (.t 13)]), 3, []⟩, ⟨(some 5), .none, (.mov (.t 14)), 4, []⟩]) (.seq (.seq (.reg false [⟨(some 15), .none, (.mov (.t 0)), 0, []⟩, ⟨(some 16), .none, (.call 69 [(.t 15), (.c (.int .i64 4))]), 1, []⟩]) (.block 0 (.seq (.reg false [⟨(some 18), .none, (.bin .eql (.t 16) (.c (.int .i64 0))), 0, []⟩, ⟨(some 17), .none, (.mov (.t 18)), 1, []⟩]) (.cond (.t 17) (.seq (.reg true [⟨(some 19), .none, (.mov (.t 1)), 0, []⟩, ⟨(some 20), .none, (.mov (.t 5)), 1, []⟩, ⟨(some 21), .none, (.slcS (.t 19) .none (.some (.t 20))), 2, [0, 1]⟩, ⟨(some 22), .none, (.mov (.t 1)), 3, []⟩, ⟨(some 23), .none, (.mov (.t 5)), 4, []⟩, ⟨(some 24), .none, (.bin .add (.t 23) (.c (.int .i64 1))), 5, [4]⟩, ⟨(some 25), .none, (.slcS (.t 22) (.some (.t 24)) .none), 6, [3, 5, 4]⟩, ⟨(some 26), .none, (.bin .add (.t 21) (.t 25)), 7, [2, 0, 1, 6, 3, 5, 4]⟩, ⟨(some 4), .none, (.mov (.t 26)), 8, [7, 2, 0, 1, 6, 3, 5, 4]⟩]) .ret) (.seq (.reg false [⟨(some 28), .none, (.bin .eql (.t 16) (.c (.int .i64 1))), 0, []⟩, ⟨(some 27), .none, (.mov (.t 28)), 1, []⟩]) (.cond (.t 27) (.seq (.reg true [⟨(some 29), .none, (.mov (.t 1)), 0, []⟩, ⟨(some 30), .none, (.mov (.t 5)), 1, []⟩, ⟨(some 31), .none, (.slcS (.t 29) .none (.some (.t 30))), 2, [0, 1]⟩, ⟨(some 32), .none, (.mov (.t 0)), 3, []⟩, ⟨(some 33), .none, (.call 107 [(.t 32)]), 4, [3]⟩, ⟨(some 34), .none, (.toInt .u8 (.t 33)), 5, [4, 3]⟩, ⟨(some 35), .none, (.mkO 1 1 [(.int .u8 0)] [(0, (.t 34))]), 6, [5, 4, 3]⟩, ⟨(some 36), .none, (.b2s (.t 35)), 7, [6, 5, 4, 3]⟩, ⟨(some 37), .none, (.bin .add (.t 31) (.t 36)), 8, [2, 0, 1, 7, 6, 5, 4, 3]⟩, ⟨(some 38), .none, (.mov (.t 1)), 9, []⟩, ⟨(some 39), .none, (.mov (.t 5)), 10, []⟩, ⟨(some 40), .none, (.slcS (.t 38) (.some (.t 39)) .none), 11, [9, 10]⟩, ⟨(some 41), .none, (.bin .add (.t 37) (.t 40)), 12, [8, 2, 0, 1, 7, 6, 5, 4, 3, 11, 9, 10]⟩, ⟨(some 4), .none, (.mov (.t 41)), 13, [12, 8, 2, 0, 1, 7, 6, 5, 4, 3, 11, 9, 10]⟩]) .ret) (.seq (.reg false [⟨(some 43), .none, (.bin .eql (.t 16) (.c (.int .i64 2))), 0, []⟩, ⟨(some 42), .none, (.mov (.t 43)), 1, []⟩]) (.cond (.t 42) (.seq (.reg false [⟨(some 44), .none, (.mov (.t 1)), 0, []⟩, ⟨(some 45), .none, (.mov (.t 5)), 1, []⟩, ⟨(some 46), .none, (.slcS (.t 44) .none (.some (.t 45))), 2, []⟩, ⟨(some 4), .none, (.mov (.t 46)), 3, []⟩]) .ret) .skip)))))))) (.seq (.reg true [⟨(some 47), .none, (.mov (.t 1)), 0, []⟩, ⟨(some 48), .none, (.mov (.t 5)), 1, []⟩, ⟨(some 49), .none, (.slcS (.t 47) .none (.some (.t 48))), 2, [0, 1]⟩, ⟨(some 50), .none, (.mov (.t 1)), 3, []⟩, ⟨(some 51), .none, (.mov (.t 5)), 4, []⟩, ⟨(some 52), .none, (.idx (.t 50) (.t 51)), 5, [3, 4]⟩, ⟨(some 53), .none, (.toInt .i64 (.t 52)), 6, [5, 3, 4]⟩, ⟨(some 54), .none, (.mov (.t 0)), 7, []⟩, ⟨(some 55), .none, (.call 69 [(.t 54), (.c (.int .i64 255))]), 8, [7]⟩, ⟨(some 56), .none, (.bin .add (.c (.int .i64 1)) (.t 55)), 9, [8, 7]⟩, ⟨(some 57), .none, (.bin .xor (.t 53) (.t 56)), 10, [6, 5, 3, 4, 9, 8, 7]⟩, ⟨(some 58), .none, (.toInt .u8 (.t 57)), 11, [10, 6, 5, 3, 4, 9, 8, 7]⟩, ⟨(some 59), .none, (.mkO 1 1 [(.int .u8 0)] [(0, (.t 58))]), 12, [11, 10, 6, 5, 3, 4, 9, 8, 7]⟩, ⟨(some 60), .none, (.b2s (.t 59)), 13, [12, 11, 10, 6, 5, 3, 4, 9, 8, 7]⟩, ⟨(some 61), .none, (.bin .add (.t 49) (.t 60)), 14, [2, 0, 1, 13, 12, 11, 10, 6, 5, 3, 4, 9, 8, 7]⟩, ⟨(some 62), .none, (.mov (.t 1)), 15, []⟩, ⟨(some 63), .none, (.mov (.t 5)), 16, []⟩, ⟨(some 64), .none, (.bin .add (.t 63) (.c (.int .i64 1))), 17, [16]⟩, ⟨(some 65), .none, (.slcS (.t 62) (.some (.t 64)) .none), 18, [15, 17, 16]⟩, ⟨(some 66), .none, (.bin .add (.t 61) (.t 65)), 19, [14, 2, 0, 1, 13, 12, 11, 10, 6, 5, 3, 4, 9, 8, 7, 18, 15, 17, 16]⟩, ⟨(some 4), .none, (.mov (.t 66)), 20, [19, 14, 2, 0, 1, 13, 12, 11, 10, 6, 5, 3, 4, 9, 8, 7, 18, 15, 17, 16]⟩]) .ret))))), [(.t 4)]⟩
theorem k70 : EE.fns 70 = some c70 := by kernel_rfl
def c106 : CF := ⟨38, (.seq (.reg false [⟨(some 4), .none, (.mov (.c (.string ⟨#[]⟩))), 0, []⟩]) (.seq (.reg false [⟨(some 9), .none, (.mkO 0 1 [(.int .u8 0)] []), 0, []⟩, ⟨(some 5), .none, (.mov (.t 9)), 1, []⟩]) (.seq (.reg false [⟨(some 10), .none, (.mov (.t 0)), 0, []⟩, ⟨(some 11), .none, (.call 69 [(.t 10), (.c (.int .i64 4))]), 1, []⟩, ⟨(some 6), .none, (.mov (.t 11)), 2, []⟩]) (.seq (.seq (.reg false [⟨(some 12), .none, (.mov (.t 0)), 0, []⟩, ⟨(some 13), .none, (.mov (.t 1)), 1, []⟩, ⟨(some 14), .none, (.bin .add (.t 13) (.c (.int .i64 1))), 2, []⟩, ⟨(some 15), .none, (.call 69 [(.t 12), (.t 14)]), 3, []⟩, ⟨(some 7), .none, (.mov (.t 15)), 4, []⟩]) (.block 0 (.loop (.seq (.seq (.reg false [⟨(some 16), .none, (.mov (.t 7)), 0, []⟩, ⟨(some 17), .none, (.bin .gtr (.t 16) (.c (.int .i64 0))), 1, []⟩]) (.cond (.t 17) .skip (.exit 0))) (.seq (.block 1 (.seq (.reg false [⟨(some 20), .none, (.mov (.t 0)), 0, []⟩, ⟨(some 21), .none, (.call 107 [(.t 20)]), 1, []⟩, ⟨(some 8), .none, (.mov (.t 21)), 2, []⟩]) (.seq (.seq (.reg false [⟨(some 22), .none, (.mov (.t 6)), 0, []⟩, ⟨(some 23), .none, (.bin .eql (.t 22) (.c (.int .i64 1))), 1, []⟩]) (.cond (.t 23) (.reg false [⟨(some 24), .none, (.mov (.t 8)), 0, []⟩, ⟨(some 25), .none, (.bin .rem (.t 24) (.c (.int .i64 2))), 1, []⟩, ⟨(some 8), .none, (.mov (.t 25)), 2, []⟩]) .skip)) (.seq (.seq (.reg false [⟨(some 26), .none, (.mov (.t 6)), 0, []⟩, ⟨(some 27), .none, (.bin .eql (.t 26) (.c (.int .i64 2))), 1, []⟩]) (.cond (.t 27) (.reg false [⟨(some 28), .none, (.mov (.t 8)), 0, []⟩, ⟨(some 29), .none, (.bin .rem (.t 28) (.c (.int .i64 4))), 1, []⟩, ⟨(some 30), .none, (.bin .add (.c (.int .i64 97)) (.t 29)), 2, []⟩, ⟨(some 8), .none, (.mov (.t 30)), 3, []⟩]) .skip)) (.reg false [⟨(some 31), .none, (.mov (.t 5)), 0, []⟩, ⟨(some 32), .none, (.mov (.t 8)), 1, []⟩, ⟨(some 33), .none, (.toInt .u8 (.t 32)), 2, []⟩, ⟨(some 34), .none, (.mkV 1 1 [(.int .u8 0)] [(0, (.t 33))]), 3, []⟩, ⟨(some 35), .none, (.app 1 1 (.t 31) (.t 34)), 4, []⟩, ⟨(some 5), .none, (.mov (.t 35)), 5, []⟩]))))) (.reg false [⟨(some 18), .none, (.mov (.t 7)), 0, []⟩, ⟨(some 19), .none, (.bin .sub (.t 18) (.c (.int .i64 1))), 1, []⟩, ⟨(some 7), .none, (.mov (.t 19)), 2, []⟩])))))) (.seq (.reg false [⟨(some 36), .none, (.mov (.t 5)), 0, []⟩, ⟨(some 37), .none, (.b2s (.t 36)), 1, []⟩, ⟨(some 4), .none, (.mov (.t 37)), 2, []⟩]) .ret))))), [(.t 4)]⟩
theorem k106 : EE.fns 106 = some c106 := by kernel_rfl
def c107 : CF := ⟨58, (.seq (.reg false [⟨(some 2), .none, (.mov (.c (.int .i64 0))), 0, []⟩]) (.seq (.reg false [⟨(some 4), .none, (.mov (.t 0)), 0, []⟩, ⟨(some 5), .none, (.mov (.t 0)), 1, []⟩, ⟨(some 6), .none, (.nilc (.t 5)), 2, []⟩, ⟨(some 7), .none, (.fadr 2 (.t 6)), 3, []⟩, ⟨(some 8), .none, (.load 1 false (.t 7)), 4, []⟩, ⟨(some 9), .none, (.bin .mul (.t 8) (.c (.int .i64 6364136223846793005))), 5, []⟩, ⟨(some 10), .none, (.bin .add (.t 9) (.c (.int .i64 1442695040888963407))), 6, []⟩, ⟨(some 11), .none, (.nilc (.t 4)), 7, []⟩, ⟨(some 12), .none, (.fadr 2 (.t 11)), 8, []⟩, ⟨.none, .none, (.store 1 (.t 12) (.t 10)), 9, []⟩]) (.seq (.reg true [⟨(some 13), .none, (.mov (.t 0)), 0, []⟩, ⟨(some 14), .none, (.nilc (.t 13)), 1, [0]⟩, ⟨(some 15), .none, (.fadr 2 (.t 14)), 2, [1, 0]⟩, ⟨(some 16), .none, (.load 1 false (.t 15)), 3, [2, 1, 0]⟩, ⟨(some 17), .none, (.bin .shr (.t 16) (.c (.int .u64 33))), 4, [3, 2, 1, 0]⟩, ⟨(some 18), .none, (.mov (.t 0)), 5, []⟩, ⟨(some 19), .none, (.nilc (.t 18)), 6, [5]⟩, ⟨(some 20), .none, (.fadr 2 (.t 19)), 7, [6, 5]⟩, ⟨(some 21), .none, (.load 1 false (.t 20)), 8, [7, 6, 5]⟩, ⟨(some 22), .none, (.bin .shr (.t 21) (.c (.int .u64 45))), 9, [8, 7, 6, 5]⟩, ⟨(some 23), .none, (.bin .xor (.t 17) (.t 22)), 10, [4, 3, 2, 1, 0, 9, 8, 7, 6, 5]⟩, ⟨(some 24), .none, (.bin .and (.t 23) (.c (.int .i64 255))), 11, [10, 4, 3, 2, 1, 0, 9, 8, 7, 6, 5]⟩, ⟨(some 3), .none, (.mov (.t 24)), 12, [11, 10, 4, 3, 2, 1, 0, 9, 8, 7, 6, 5]⟩]) (.seq (.seq (.reg true [⟨(some 25), .none, (.mov (.t 0)), 0, []⟩, ⟨(some 26), .none, (.nilc (.t 25)), 1, [0]⟩, ⟨(some 27), .none, (.fadr 1 (.t 26)), 2, [1, 0]⟩, ⟨(some 28), .none, (.load 1 false (.t 27)), 3, [2, 1, 0]⟩, ⟨(some 29), .none, (.mov (.t 0)), 4, []⟩, ⟨(some 30), .none, (.nilc (.t 29)), 5, [4]⟩, ⟨(some 31), .none, (.fadr 0 (.t 30)), 6, [5, 4]⟩, ⟨(some 32), .none, (.load 1 false (.t 31)), 7, [6, 5, 4]⟩, ⟨(some 33), .none, (.lenS (.t 32)), 8, [7, 6, 5, 4]⟩, ⟨(some 34), .none, (.bin .lss (.t 28) (.t 33)), 9, [3, 2, 1, 0, 8, 7, 6, 5, 4]⟩]) (.cond (.t 34) (.seq (.reg true [⟨(some 35), .none, (.mov (.t 3)), 0, []⟩, ⟨(some 36), .none, (.mov (.t 0)), 1, []⟩, ⟨(some 37), .none, (.nilc (.t 36)), 2, [1]⟩, ⟨(some 38), .none, (.fadr 0 (.t 37)), 3, [2, 1]⟩, ⟨(some 39), .none, (.load 1 false (.t 38)), 4, [3, 2, 1]⟩, ⟨(some 40), .none, (.mov (.t 0)), 5, []⟩, ⟨(some 41), .none, (.nilc (.t 40)), 6, [5]⟩, ⟨(some 42), .none, (.fadr 1 (.t 41)), 7, [6, 5]⟩, ⟨(some 43), .none, (.load 1 false (.t 42)), 8, [7, 6, 5]⟩, ⟨(some 44), .none, (.iadr 1 (.t 39) (.t 43)), 9, [4, 3, 2, 1, 8, 7, 6, 5]⟩, ⟨(some 45), .none, (.load 1 false (.t 44)), 10, [9, 4, 3, 2, 1, 8, 7, 6, 5]⟩, ⟨(some 46), .none, (.toInt .i64 (.t 45)), 11, [10, 9, 4, 3, 2, 1, 8, 7, 6, 5]⟩, ⟨(some 47), .none, (.bin .add (.t 35) (.t 46)), 12, [0, 11, 10, 9, 4, 3, 2, 1, 8, 7, 6, 5]⟩, ⟨(some 48), .none, (.bin .and (.t 47) (.c (.int .i64 255))), 13, [12, 0, 11, 10, 9, 4, 3, 2, 1, 8, 7, 6, 5]⟩, ⟨(some 3), .none, (.mov (.t 48)), 14, [13, 12, 0, 11, 10, 9, 4, 3, 2, 1, 8, 7, 6, 5]⟩]) (.reg false [⟨(some 49), .none, (.mov (.t 0)), 0, []⟩, ⟨(some 50), .none, (.mov (.t 0)), 1, []⟩, ⟨(some 51), .none, (.nilc (.t 50)), 2, []⟩, ⟨(some 52), .none, (.fadr 1 (.t 51)), 3, []⟩, ⟨(some 53), .none, (.load 1 false (.t 52)), 4, []⟩, ⟨(some 54), .none, (.bin .add (.t 53) (.c (.int .i64 1))), 5, []⟩, ⟨(some 55), .none, (.nilc (.t 49)), 6, []⟩, ⟨(some 56), .none, (.fadr 1 (.t 55)), 7, []⟩, ⟨.none, .none, (.store 1 (.t 56) (.t 54)), 8, []⟩])) .skip)) (.seq (.reg false [⟨(some 57), .none, (.mov (.t 3)), 0, []⟩, ⟨(some 2), .none, (.mov (.t 57)), 1, []⟩]) .ret))))), [(.t 2)]⟩
theorem k107 : EE.fns 107 = some c107 := by kernel_rfl
end Go.Proofs.Ytpdkgbamakileaa.Ev

/- Draws: the cursor, numbers, choices and texts drawn by it. -/
namespace Go.Proofs.Ytpdkgbamakileaa.Ev
set_option linter.all false
open Go
set_option maxRecDepth 4000

theorem fun_t {E : Env} {m : Md} {f : Nat} {cf : CF} {vs : List Value} {H : Hp} {Q : Value → Hp → Prop} (ht : E.tr f = true) (hp : E.prim f = none) (hf : E.fns f = some cf) (hl : vs.length ≤ cf.nt)
    (h : ∀ m' : Md, (∀ id, m'.wr id = m.wr id) → go E m' [.c cf.body] { ρ := ini vs, gn := 0, H := H } (Post cf.res true H Q)) : Fun E m f vs H Q :=
  fun_ok ht hp hf hl (h _ fun _ => rfl)
theorem callD {E : Env} {m : Md} {f : Nat} {vs : List Value} {H : Hp} {P : Value → Hp → Prop} {s : St} {d : Option Nat} {ts : List Tk} {Q : Ex → St → Prop} (h : Fun E m f vs H P) (hH : s.H = H)
    (hq : ∀ r H', P r H' → go E m ts { s with H := H', ρ := upd s.ρ d (.val r) } Q) : callT E m false f (some vs) s d ts Q := by
  subst hH
  unfold callT opt
  exact h.mono hq

def eU (n : Int) : List Value := [.int .u8 n]
abbrev SlU (H : Hp) (v : Value) (l : List Int) : Prop := Sl (En eU) 1 H v l
theorem Sl.byte {H : Hp} {v : Value} {l : List Int} (h : SlU H v l) {i : Nat} {a : Int} (hi : l[i]? = some a) : ∃ id p o, H[id]? = some o ∧ o[p]? = some (.int .u8 a) ∧
    ∀ (s : St) (x y : X), exv s.ρ x = some v → exv s.ρ y = some (.int .i64 i) → iadrK s 1 x y = some (.val (.pointer (some ⟨id, p, some o.length⟩)), s) := by
  obtain ⟨id, p, o, ho, hr, hp, hia⟩ := h.elem hi
  unfold En at hr
  exact ⟨id, p, o, ho, by simpa [eU] using getElem?_of_take hr (j := 0) (by omega), hia⟩

/-- A cursor over a draw's bytes. -/
def Cur (H : Hp) (c : Value) (id : Nat) : Prop := c = .pointer (some ⟨id, 0, some 3⟩) ∧ ∃ b i h bl, H[id]? = some [b, .int .i64 i, .int .i64 h] ∧ SlU H b bl ∧ 0 ≤ i ∧ ∀ j ∈ idsOf b, j < id
/-- The cursor has gone on; no more has been done. -/
def CS (H H' : Hp) (c : Value) (id : Nat) : Prop := Cur H' c id ∧ (∀ j, j ≠ id → H'[j]? = H[j]?) ∧ H'.length = H.length
/-- The cursor has gone on; new rows have come. -/
def CX (H H' : Hp) (c : Value) (id : Nat) : Prop := Cur H' c id ∧ (∀ j, j < H.length → j ≠ id → H'[j]? = H[j]?) ∧ H.length ≤ H'.length

theorem CS.trans {H H' H'' : Hp} {c : Value} {id : Nat} (h : CS H H' c id) (k : CS H' H'' c id) : CS H H'' c id := ⟨k.1, fun j hj => (k.2.1 j hj).trans (h.2.1 j hj), k.2.2.trans h.2.2⟩
theorem CS.cx {H H' : Hp} {c : Value} {id : Nat} (h : CS H H' c id) : CX H H' c id := ⟨h.1, fun j _ hj => h.2.1 j hj, by have := h.2.2; omega⟩
theorem CX.trans {H H' H'' : Hp} {c : Value} {id : Nat} (h : CX H H' c id) (k : CX H' H'' c id) : CX H H'' c id := ⟨k.1, fun j hl hj => (k.2.1 j (by have := h.2.2; omega) hj).trans (h.2.1 j hl hj), Nat.le_trans h.2.2 k.2.2⟩
theorem CX.refl {H : Hp} {c : Value} {id : Nat} (h : Cur H c id) : CX H H c id := ⟨h, fun _ _ _ => rfl, Nat.le_refl _⟩
theorem Sl.cs {α : Type} {R : α → List Value → Prop} {esz : Nat} {H H' : Hp} {v c : Value} {l : List α} {id : Nat} (h : Sl R esz H v l) (hc : CS H H' c id) (hid : id ∉ idsOf v) : Sl R esz H' v l :=
  h.frame (fun _ _ _ h => h) fun i off e ln cap hv => hc.2.1 i (fun e2 => hid (by subst hv; subst e2; simp [idsOf]))
theorem Sl.cx {α : Type} {R : α → List Value → Prop} {esz : Nat} {H H' : Hp} {v c : Value} {l : List α} {id : Nat} (h : Sl R esz H v l) (hc : CX H H' c id) (hid : id ∉ idsOf v) : Sl R esz H' v l :=
  h.frame (fun _ _ _ h => h) fun i off e ln cap hv => hc.2.1 i (h.ids i (by subst hv; simp [idsOf])) (fun e2 => hid (by subst hv; subst e2; simp [idsOf]))

theorem Cur.keep {H H' : Hp} {c : Value} {id : Nat} (h : Cur H c id) (hk : ∀ j, j ≤ id → H'[j]? = H[j]?) : Cur H' c id := by
  obtain ⟨rfl, b, i, g, bl, hid, hb, hi, hnb⟩ := h
  exact ⟨rfl, b, i, g, bl, by rw [hk id (Nat.le_refl _)]; exact hid, hb.frame (fun _ _ _ h => h) (fun x off e ln cap hv => hk x (Nat.le_of_lt (hnb x (by subst hv; simp [idsOf])))), hi, hnb⟩
theorem Cur.lt {H : Hp} {c : Value} {id : Nat} (h : Cur H c id) : id < H.length := by
  obtain ⟨rfl, b, i, g, bl, hid, _⟩ := h
  exact (List.getElem?_eq_some_iff.1 hid).1
theorem Cur.pre {H H' : Hp} {c : Value} {id : Nat} (h : Cur H c id) (hp : H <+: H') : Cur H' c id := h.keep fun j hj => pre_get hp (by have := h.lt; omega)
theorem CX.ofPre {H H' : Hp} {c : Value} {id : Nat} (h : Cur H c id) (hp : H <+: H') : CX H H' c id := ⟨h.pre hp, fun j hj _ => pre_get hp hj, hp.length_le⟩
/-- Rows of one's own have changed; the cursor hasn't. -/
theorem CX.own {H H1 H' : Hp} {c : Value} {id : Nat} (h : CX H H1 c id) (hid : id < H.length) (hk : ∀ j, j < H.length → H'[j]? = H1[j]?) (hl : H1.length ≤ H'.length) : CX H H' c id :=
  ⟨h.1.keep fun j hj => hk j (by omega), fun j hj hne => (hk j hj).trans (h.2.1 j hj hne), Nat.le_trans h.2.2 hl⟩
theorem CX.cut {H H' : Hp} {c : Value} {id : Nat} (h : CX H H' c id) (hid : id < H.length) : CS H (H'.take H.length) c id := by
  have hl : (H'.take H.length).length = H.length := by rw [List.length_take]; have := h.2.2; omega
  refine ⟨h.1.keep fun j hj => by rw [List.getElem?_take, if_pos (by omega)], fun j hj => ?_, hl⟩
  by_cases hjl : j < H.length
  · rw [List.getElem?_take, if_pos hjl]; exact h.2.1 j hjl hj
  · rw [List.getElem?_eq_none (by omega), List.getElem?_eq_none (by omega)]
theorem CS.cut {H H' : Hp} {c : Value} {id : Nat} (h : CS H H' c id) : CS H (H'.take H.length) c id := by
  rw [List.take_of_length_le (Nat.le_of_eq h.2.2)]; exact h
theorem CX.pre {H0 H H' : Hp} {c : Value} {id : Nat} (h : CX H H' c id) (hp : H0 <+: H) (hid : H0.length ≤ id) : H0 <+: H' := by
  refine List.prefix_iff_getElem?.2 fun j hj => ?_
  have := hp.length_le
  rw [h.2.1 j (by omega) (by omega), pre_get hp hj, List.getElem?_eq_getElem hj]

theorem and255 (a : Int) : 0 ≤ IntKind.i64.wrap ((BitVec.ofInt IntKind.i64.bits a &&& BitVec.ofInt IntKind.i64.bits 255).toNat : Int) ∧ IntKind.i64.wrap ((BitVec.ofInt IntKind.i64.bits a &&& BitVec.ofInt IntKind.i64.bits 255).toNat : Int) ≤ 255 := by
  have h : (BitVec.ofInt IntKind.i64.bits a &&& BitVec.ofInt IntKind.i64.bits 255).toNat ≤ 255 := by
    rw [BitVec.toNat_and]
    refine Nat.le_trans (Nat.and_le_right) ?_
    decide
  rw [wrap64 _ (by omega) (by omega)]
  omega

theorem f107 {m : Md} {H : Hp} {c : Value} {id : Nat} (hc : Cur H c id) (hw : m.wr id = true) : Fun EE m 107 [c] H fun r H' => ∃ x : Int, r = .int .i64 x ∧ 0 ≤ x ∧ x ≤ 255 ∧ CS H H' c id := by
  refine fun_t rfl rfl k107 (by simp [c107]) fun m' hm => ?_
  have hw : m'.wr id = true := (hm id).trans hw
  obtain ⟨rfl, b, i, h, bl, hid, hb, hi, hnb0⟩ := hc
  have hnb : id ∉ idsOf b := fun hm => by have := hnb0 _ hm; omega
  have hidl := (List.getElem?_eq_some_iff.1 hid).1
  have hset : ∀ q, (H.set id q)[id]? = some q := fun q => List.getElem?_set_self hidl
  have hroom := hb.room
  simp only [go_nil, go_blk, go_skip, go_ret, go_exit, go_seq, go_block, go_reg, go_r0, go_r, go_d0, go_d, go_e0, go_e, box2, Option.isSome_some, Nat.le_refl, go_cond, go_o, go_g, aft_some, cnd_bool, grd_bool, grd_tup, brT_true, brT_false, brT_not, thr_exit, thr_c, thr_nil, stp, stepK, movK, mv1, ex, exv, exvs, upd_some, upd_none, ini, St.val, binK, binV, ofV, pickK, unK, unV, beqK, beq_true, beq_false, if_true, if_false, List.getElem?_cons_zero, List.getElem?_cons_succ, ↓reduceIte, Nat.reduceEqDiff, reduceCtorEq, loadK, adr, deref, Ad.fv, Ad.live, fadrK, List.length_cons, List.length_nil, List.drop_zero, List.drop_succ_cons, List.take_succ_cons, List.take_zero, Nat.reduceAdd, Nat.reduceLeDiff, Nat.zero_add, Nat.add_zero, aeqK, agEq, scEq, boxVK, newVK, exc, vc_agg, vc_int, vc_bool, vc_str, vc_ptr, vc_sl, vc_fn, boxOf, adInf, List.reverse_cons, List.reverse_nil, List.nil_append, List.cons_append, extK, Bool.and_true, Bool.true_and, Bool.not_true, Bool.not_false, resT, resVs, resV, true_and, and_true, storeK, spl_nil, spl_z, spl_1, spl_2, spl_3, spl_4, spl_5, spl_6, spl_7, spl_8, scal_int, scal_bool, scal_str, scal_nil, implies_true, Bool.and_self, Post_ret, Post_normal, PostS_ret, PostS_normal, retT_true, retT_false, flat_bool, flat_int, flat_str, List.take_length, decide_true, decide_false, Option.some.injEq, Value.bool.injEq, Value.int.injEq, Bool.false_and, Bool.and_false, not_false_eq_true, not_true_eq_false, toIntK, List.length_set, Nat.reduceMul, Bool.not_eq_true, Bool.not_eq_false, List.all_cons, List.all_nil, exps, fillL, buildK, strK, nilcK, fnK, callVT, List.size_toArray, List.append_nil, List.singleton_append, boxOK, newOK, scal_nil, List.isEmpty_nil, List.isEmpty_cons, mkVK, mkOK, mkCells, zeros_0, zeros_1, zeros_2, zeros_3, zeros_4, List.map_cons, List.map_nil, c107, hid, hw]
  refine go_draw ?_
  simp only [go_nil, go_blk, go_skip, go_ret, go_exit, go_seq, go_block, go_reg, go_r0, go_r, go_d0, go_d, go_e0, go_e, box2, Option.isSome_some, Nat.le_refl, go_cond, go_o, go_g, aft_some, cnd_bool, grd_bool, grd_tup, brT_true, brT_false, brT_not, thr_exit, thr_c, thr_nil, stp, stepK, movK, mv1, ex, exv, exvs, upd_some, upd_none, ini, St.val, binK, binV, ofV, pickK, unK, unV, beqK, beq_true, beq_false, if_true, if_false, List.getElem?_cons_zero, List.getElem?_cons_succ, ↓reduceIte, Nat.reduceEqDiff, reduceCtorEq, loadK, adr, deref, Ad.fv, Ad.live, fadrK, List.length_cons, List.length_nil, List.drop_zero, List.drop_succ_cons, List.take_succ_cons, List.take_zero, Nat.reduceAdd, Nat.reduceLeDiff, Nat.zero_add, Nat.add_zero, aeqK, agEq, scEq, boxVK, newVK, exc, vc_agg, vc_int, vc_bool, vc_str, vc_ptr, vc_sl, vc_fn, boxOf, adInf, List.reverse_cons, List.reverse_nil, List.nil_append, List.cons_append, extK, Bool.and_true, Bool.true_and, Bool.not_true, Bool.not_false, resT, resVs, resV, true_and, and_true, storeK, spl_nil, spl_z, spl_1, spl_2, spl_3, spl_4, spl_5, spl_6, spl_7, spl_8, scal_int, scal_bool, scal_str, scal_nil, implies_true, Bool.and_self, Post_ret, Post_normal, PostS_ret, PostS_normal, retT_true, retT_false, flat_bool, flat_int, flat_str, List.take_length, decide_true, decide_false, Option.some.injEq, Value.bool.injEq, Value.int.injEq, Bool.false_and, Bool.and_false, not_false_eq_true, not_true_eq_false, toIntK, List.length_set, Nat.reduceMul, Bool.not_eq_true, Bool.not_eq_false, List.all_cons, List.all_nil, exps, fillL, buildK, strK, nilcK, fnK, callVT, List.size_toArray, List.append_nil, List.singleton_append, boxOK, newOK, scal_nil, List.isEmpty_nil, List.isEmpty_cons, mkVK, mkOK, mkCells, zeros_0, zeros_1, zeros_2, zeros_3, zeros_4, List.map_cons, List.map_nil, hset, Int.reduceLT, Bool.false_eq_true]
  refine ⟨by rfl, ?_⟩
  refine go_draw ?_
  simp only [go_nil, go_blk, go_skip, go_ret, go_exit, go_seq, go_block, go_reg, go_r0, go_r, go_d0, go_d, go_e0, go_e, box2, Option.isSome_some, Nat.le_refl, go_cond, go_o, go_g, aft_some, cnd_bool, grd_bool, grd_tup, brT_true, brT_false, brT_not, thr_exit, thr_c, thr_nil, stp, stepK, movK, mv1, ex, exv, exvs, upd_some, upd_none, ini, St.val, binK, binV, ofV, pickK, unK, unV, beqK, beq_true, beq_false, if_true, if_false, List.getElem?_cons_zero, List.getElem?_cons_succ, ↓reduceIte, Nat.reduceEqDiff, reduceCtorEq, loadK, adr, deref, Ad.fv, Ad.live, fadrK, List.length_cons, List.length_nil, List.drop_zero, List.drop_succ_cons, List.take_succ_cons, List.take_zero, Nat.reduceAdd, Nat.reduceLeDiff, Nat.zero_add, Nat.add_zero, aeqK, agEq, scEq, boxVK, newVK, exc, vc_agg, vc_int, vc_bool, vc_str, vc_ptr, vc_sl, vc_fn, boxOf, adInf, List.reverse_cons, List.reverse_nil, List.nil_append, List.cons_append, extK, Bool.and_true, Bool.true_and, Bool.not_true, Bool.not_false, resT, resVs, resV, true_and, and_true, storeK, spl_nil, spl_z, spl_1, spl_2, spl_3, spl_4, spl_5, spl_6, spl_7, spl_8, scal_int, scal_bool, scal_str, scal_nil, implies_true, Bool.and_self, Post_ret, Post_normal, PostS_ret, PostS_normal, retT_true, retT_false, flat_bool, flat_int, flat_str, List.take_length, decide_true, decide_false, Option.some.injEq, Value.bool.injEq, Value.int.injEq, Bool.false_and, Bool.and_false, not_false_eq_true, not_true_eq_false, toIntK, List.length_set, Nat.reduceMul, Bool.not_eq_true, Bool.not_eq_false, List.all_cons, List.all_nil, exps, fillL, buildK, strK, nilcK, fnK, callVT, List.size_toArray, List.append_nil, List.singleton_append, boxOK, newOK, scal_nil, List.isEmpty_nil, List.isEmpty_cons, mkVK, mkOK, mkCells, zeros_0, zeros_1, zeros_2, zeros_3, zeros_4, List.map_cons, List.map_nil, hset, Int.reduceLT]
  simp only [go_nil, go_blk, go_skip, go_ret, go_exit, go_seq, go_block, go_reg, go_r0, go_r, go_d0, go_d, go_e0, go_e, box2, Option.isSome_some, Nat.le_refl, go_cond, go_o, go_g, aft_some, cnd_bool, grd_bool, grd_tup, brT_true, brT_false, brT_not, thr_exit, thr_c, thr_nil, stp, stepK, movK, mv1, ex, exv, exvs, upd_some, upd_none, ini, St.val, binK, binV, ofV, pickK, unK, unV, beqK, beq_true, beq_false, if_true, if_false, List.getElem?_cons_zero, List.getElem?_cons_succ, ↓reduceIte, Nat.reduceEqDiff, reduceCtorEq, loadK, adr, deref, Ad.fv, Ad.live, fadrK, List.length_cons, List.length_nil, List.drop_zero, List.drop_succ_cons, List.take_succ_cons, List.take_zero, Nat.reduceAdd, Nat.reduceLeDiff, Nat.zero_add, Nat.add_zero, aeqK, agEq, scEq, boxVK, newVK, exc, vc_agg, vc_int, vc_bool, vc_str, vc_ptr, vc_sl, vc_fn, boxOf, adInf, List.reverse_cons, List.reverse_nil, List.nil_append, List.cons_append, extK, Bool.and_true, Bool.true_and, Bool.not_true, Bool.not_false, resT, resVs, resV, true_and, and_true, storeK, spl_nil, spl_z, spl_1, spl_2, spl_3, spl_4, spl_5, spl_6, spl_7, spl_8, scal_int, scal_bool, scal_str, scal_nil, implies_true, Bool.and_self, Post_ret, Post_normal, PostS_ret, PostS_normal, retT_true, retT_false, flat_bool, flat_int, flat_str, List.take_length, decide_true, decide_false, Option.some.injEq, Value.bool.injEq, Value.int.injEq, Bool.false_and, Bool.and_false, not_false_eq_true, not_true_eq_false, toIntK, List.length_set, Nat.reduceMul, Bool.not_eq_true, Bool.not_eq_false, List.all_cons, List.all_nil, exps, fillL, buildK, strK, nilcK, fnK, callVT, List.size_toArray, List.append_nil, List.singleton_append, boxOK, newOK, scal_nil, List.isEmpty_nil, List.isEmpty_cons, mkVK, mkOK, mkCells, zeros_0, zeros_1, zeros_2, zeros_3, zeros_4, List.map_cons, List.map_nil, hb.len, Int.reduceLT]
  refine ⟨by rfl, ?_⟩
  have done : ∀ (i' h' : Int) (q : List Value), 0 ≤ i' → q = [b, .int .i64 i', .int .i64 h'] → CS H (H.set id q) (.pointer (some ⟨id, 0, some 3⟩)) id := fun i' h' q hi' hq => by
    subst hq
    exact ⟨⟨rfl, b, i', h', bl, hset _, hb.other hnb, hi', hnb0⟩, fun j hj => List.getElem?_set_ne (fun e => hj e.symm), by simp⟩
  have hcut : ∀ q : List Value, (H.set id q).take H.length = H.set id q := fun q => List.take_of_length_le (by simp)
  refine brT.intro (fun c1 => ?_) (fun c1 => ?_)
  · obtain ⟨k, rfl⟩ : ∃ k : Nat, i = k := ⟨i.toNat, by omega⟩
    have hk : k < bl.length := by have := of_decide_eq_true c1; omega
    obtain ⟨idb, pb, ob, hob, hrb, hiab⟩ := (hb.other (r := [b, .int .i64 k, .int .i64 (IntKind.i64.wrap (IntKind.i64.wrap (h * 6364136223846793005) + 1442695040888963407))]) hnb).byte (List.getElem?_eq_getElem hk)
    simp only [go_nil, go_blk, go_skip, go_ret, go_exit, go_seq, go_block, go_reg, go_r0, go_r, go_d0, go_d, go_e0, go_e, box2, Option.isSome_some, Nat.le_refl, go_cond, go_o, go_g, aft_some, cnd_bool, grd_bool, grd_tup, brT_true, brT_false, brT_not, thr_exit, thr_c, thr_nil, stp, stepK, movK, mv1, ex, exv, exvs, upd_some, upd_none, ini, St.val, binK, binV, ofV, pickK, unK, unV, beqK, beq_true, beq_false, if_true, if_false, List.getElem?_cons_zero, List.getElem?_cons_succ, ↓reduceIte, Nat.reduceEqDiff, reduceCtorEq, loadK, adr, deref, Ad.fv, Ad.live, fadrK, List.length_cons, List.length_nil, List.drop_zero, List.drop_succ_cons, List.take_succ_cons, List.take_zero, Nat.reduceAdd, Nat.reduceLeDiff, Nat.zero_add, Nat.add_zero, aeqK, agEq, scEq, boxVK, newVK, exc, vc_agg, vc_int, vc_bool, vc_str, vc_ptr, vc_sl, vc_fn, boxOf, adInf, List.reverse_cons, List.reverse_nil, List.nil_append, List.cons_append, extK, Bool.and_true, Bool.true_and, Bool.not_true, Bool.not_false, resT, resVs, resV, true_and, and_true, storeK, spl_nil, spl_z, spl_1, spl_2, spl_3, spl_4, spl_5, spl_6, spl_7, spl_8, scal_int, scal_bool, scal_str, scal_nil, implies_true, Bool.and_self, Post_ret, Post_normal, PostS_ret, PostS_normal, retT_true, retT_false, flat_bool, flat_int, flat_str, List.take_length, decide_true, decide_false, Option.some.injEq, Value.bool.injEq, Value.int.injEq, Bool.false_and, Bool.and_false, not_false_eq_true, not_true_eq_false, toIntK, List.length_set, Nat.reduceMul, Bool.not_eq_true, Bool.not_eq_false, List.all_cons, List.all_nil, exps, fillL, buildK, strK, nilcK, fnK, callVT, List.size_toArray, List.append_nil, List.singleton_append, boxOK, newOK, scal_nil, List.isEmpty_nil, List.isEmpty_cons, mkVK, mkOK, mkCells, zeros_0, zeros_1, zeros_2, zeros_3, zeros_4, List.map_cons, List.map_nil]
    refine go_draw ?_
    simp only [go_nil, go_blk, go_skip, go_ret, go_exit, go_seq, go_block, go_reg, go_r0, go_r, go_d0, go_d, go_e0, go_e, box2, Option.isSome_some, Nat.le_refl, go_cond, go_o, go_g, aft_some, cnd_bool, grd_bool, grd_tup, brT_true, brT_false, brT_not, thr_exit, thr_c, thr_nil, stp, stepK, movK, mv1, ex, exv, exvs, upd_some, upd_none, ini, St.val, binK, binV, ofV, pickK, unK, unV, beqK, beq_true, beq_false, if_true, if_false, List.getElem?_cons_zero, List.getElem?_cons_succ, ↓reduceIte, Nat.reduceEqDiff, reduceCtorEq, loadK, adr, deref, Ad.fv, Ad.live, fadrK, List.length_cons, List.length_nil, List.drop_zero, List.drop_succ_cons, List.take_succ_cons, List.take_zero, Nat.reduceAdd, Nat.reduceLeDiff, Nat.zero_add, Nat.add_zero, aeqK, agEq, scEq, boxVK, newVK, exc, vc_agg, vc_int, vc_bool, vc_str, vc_ptr, vc_sl, vc_fn, boxOf, adInf, List.reverse_cons, List.reverse_nil, List.nil_append, List.cons_append, extK, Bool.and_true, Bool.true_and, Bool.not_true, Bool.not_false, resT, resVs, resV, true_and, and_true, storeK, spl_nil, spl_z, spl_1, spl_2, spl_3, spl_4, spl_5, spl_6, spl_7, spl_8, scal_int, scal_bool, scal_str, scal_nil, implies_true, Bool.and_self, Post_ret, Post_normal, PostS_ret, PostS_normal, retT_true, retT_false, flat_bool, flat_int, flat_str, List.take_length, decide_true, decide_false, Option.some.injEq, Value.bool.injEq, Value.int.injEq, Bool.false_and, Bool.and_false, not_false_eq_true, not_true_eq_false, toIntK, List.length_set, Nat.reduceMul, Bool.not_eq_true, Bool.not_eq_false, List.all_cons, List.all_nil, exps, fillL, buildK, strK, nilcK, fnK, callVT, List.size_toArray, List.append_nil, List.singleton_append, boxOK, newOK, scal_nil, List.isEmpty_nil, List.isEmpty_cons, mkVK, mkOK, mkCells, zeros_0, zeros_1, zeros_2, zeros_3, zeros_4, List.map_cons, List.map_nil, hset, hiab, hob, hrb, Int.reduceLT]
    refine ⟨by rfl, ?_⟩
    simp only [go_nil, go_blk, go_skip, go_ret, go_exit, go_seq, go_block, go_reg, go_r0, go_r, go_d0, go_d, go_e0, go_e, box2, Option.isSome_some, Nat.le_refl, go_cond, go_o, go_g, aft_some, cnd_bool, grd_bool, grd_tup, brT_true, brT_false, brT_not, thr_exit, thr_c, thr_nil, stp, stepK, movK, mv1, ex, exv, exvs, upd_some, upd_none, ini, St.val, binK, binV, ofV, pickK, unK, unV, beqK, beq_true, beq_false, if_true, if_false, List.getElem?_cons_zero, List.getElem?_cons_succ, ↓reduceIte, Nat.reduceEqDiff, reduceCtorEq, loadK, adr, deref, Ad.fv, Ad.live, fadrK, List.length_cons, List.length_nil, List.drop_zero, List.drop_succ_cons, List.take_succ_cons, List.take_zero, Nat.reduceAdd, Nat.reduceLeDiff, Nat.zero_add, Nat.add_zero, aeqK, agEq, scEq, boxVK, newVK, exc, vc_agg, vc_int, vc_bool, vc_str, vc_ptr, vc_sl, vc_fn, boxOf, adInf, List.reverse_cons, List.reverse_nil, List.nil_append, List.cons_append, extK, Bool.and_true, Bool.true_and, Bool.not_true, Bool.not_false, resT, resVs, resV, true_and, and_true, storeK, spl_nil, spl_z, spl_1, spl_2, spl_3, spl_4, spl_5, spl_6, spl_7, spl_8, scal_int, scal_bool, scal_str, scal_nil, implies_true, Bool.and_self, Post_ret, Post_normal, PostS_ret, PostS_normal, retT_true, retT_false, flat_bool, flat_int, flat_str, List.take_length, decide_true, decide_false, Option.some.injEq, Value.bool.injEq, Value.int.injEq, Bool.false_and, Bool.and_false, not_false_eq_true, not_true_eq_false, toIntK, List.length_set, Nat.reduceMul, Bool.not_eq_true, Bool.not_eq_false, List.all_cons, List.all_nil, exps, fillL, buildK, strK, nilcK, fnK, callVT, List.size_toArray, List.append_nil, List.singleton_append, boxOK, newOK, scal_nil, List.isEmpty_nil, List.isEmpty_cons, mkVK, mkOK, mkCells, zeros_0, zeros_1, zeros_2, zeros_3, zeros_4, List.map_cons, List.map_nil, hset, hw, List.set_set, wrap64 ((k : Int) + 1) (by omega) (by omega), hcut]
    exact ⟨_, rfl, (and255 _).1, (and255 _).2, done _ _ _ (by omega) rfl⟩
  · simp only [go_nil, go_blk, go_skip, go_ret, go_exit, go_seq, go_block, go_reg, go_r0, go_r, go_d0, go_d, go_e0, go_e, box2, Option.isSome_some, Nat.le_refl, go_cond, go_o, go_g, aft_some, cnd_bool, grd_bool, grd_tup, brT_true, brT_false, brT_not, thr_exit, thr_c, thr_nil, stp, stepK, movK, mv1, ex, exv, exvs, upd_some, upd_none, ini, St.val, binK, binV, ofV, pickK, unK, unV, beqK, beq_true, beq_false, if_true, if_false, List.getElem?_cons_zero, List.getElem?_cons_succ, ↓reduceIte, Nat.reduceEqDiff, reduceCtorEq, loadK, adr, deref, Ad.fv, Ad.live, fadrK, List.length_cons, List.length_nil, List.drop_zero, List.drop_succ_cons, List.take_succ_cons, List.take_zero, Nat.reduceAdd, Nat.reduceLeDiff, Nat.zero_add, Nat.add_zero, aeqK, agEq, scEq, boxVK, newVK, exc, vc_agg, vc_int, vc_bool, vc_str, vc_ptr, vc_sl, vc_fn, boxOf, adInf, List.reverse_cons, List.reverse_nil, List.nil_append, List.cons_append, extK, Bool.and_true, Bool.true_and, Bool.not_true, Bool.not_false, resT, resVs, resV, true_and, and_true, storeK, spl_nil, spl_z, spl_1, spl_2, spl_3, spl_4, spl_5, spl_6, spl_7, spl_8, scal_int, scal_bool, scal_str, scal_nil, implies_true, Bool.and_self, Post_ret, Post_normal, PostS_ret, PostS_normal, retT_true, retT_false, flat_bool, flat_int, flat_str, List.take_length, decide_true, decide_false, Option.some.injEq, Value.bool.injEq, Value.int.injEq, Bool.false_and, Bool.and_false, not_false_eq_true, not_true_eq_false, toIntK, List.length_set, Nat.reduceMul, Bool.not_eq_true, Bool.not_eq_false, List.all_cons, List.all_nil, exps, fillL, buildK, strK, nilcK, fnK, callVT, List.size_toArray, List.append_nil, List.singleton_append, boxOK, newOK, scal_nil, List.isEmpty_nil, List.isEmpty_cons, mkVK, mkOK, mkCells, zeros_0, zeros_1, zeros_2, zeros_3, zeros_4, List.map_cons, List.map_nil, hcut]
    exact ⟨_, rfl, (and255 _).1, (and255 _).2, done _ _ _ hi rfl⟩

/-- A number below another one. -/
def BelowR (H : Hp) (c : Value) (id : Nat) (n : Int) (r : Value) (H' : Hp) : Prop := ∃ x : Int, r = .int .i64 x ∧ 0 ≤ x ∧ (0 < n → x < n) ∧ (n ≤ 0 → x = 0) ∧ CS H H' c id
theorem f69 {m : Md} {H : Hp} {c : Value} {id : Nat} {n : Int} (hc : Cur H c id) (hw : m.wr id = true) : Fun EE m 69 [c, .int .i64 n] H fun r H' => BelowR H c id n r H' := by
  refine fun_t rfl rfl k69 (by simp [c69]) fun m' hm => ?_
  have hw : m'.wr id = true := (hm id).trans hw
  simp only [go_sem, ↓reduceIte, Nat.reduceEqDiff, reduceCtorEq, Nat.reduceAdd, Nat.reduceLeDiff, Nat.reduceMul, c69]
  refine brT.intro (fun q1 => ?_) (fun q1 => ?_) <;> simp only [go_sem, ↓reduceIte, Nat.reduceEqDiff, reduceCtorEq, Nat.reduceAdd, Nat.reduceLeDiff, Nat.reduceMul]
  · exact ⟨0, rfl, by omega, fun h => by have := of_decide_eq_true q1; omega, fun _ => rfl, hc, fun _ _ => rfl, rfl⟩
  have n0 : 0 < n := by have := of_decide_eq_false q1; omega
  have e3 : n ≠ 0 := by omega
  have fin : ∀ {x : Int} {H' : Hp}, 0 ≤ x → CS H H' c id → BelowR H c id n (.int .i64 (Int.tmod x n)) (H'.take H.length) := fun {x H'} hx h => ⟨_, rfl, Int.tmod_nonneg _ hx, fun _ => by rw [Int.tmod_eq_emod_of_nonneg hx]; exact Int.emod_lt_of_pos _ n0, fun h => by omega, h.cut⟩
  refine brT.intro (fun q2 => ?_) (fun q2 => ?_) <;> simp only [go_sem, ↓reduceIte, Nat.reduceEqDiff, reduceCtorEq, Nat.reduceAdd, Nat.reduceLeDiff, Nat.reduceMul]
  · refine callD (f107 hc hw) rfl fun r H1 ⟨x, e, hx0, hx1, hs⟩ => ?_
    subst e
    simp only [go_sem, ↓reduceIte, Nat.reduceEqDiff, reduceCtorEq, Nat.reduceAdd, Nat.reduceLeDiff, Nat.reduceMul, e3]
    exact fin hx0 hs
  refine callD (f107 hc hw) rfl fun r H1 ⟨x, e, hx0, hx1, hs1⟩ => ?_
  subst e
  simp only [go_sem, ↓reduceIte, Nat.reduceEqDiff, reduceCtorEq, Nat.reduceAdd, Nat.reduceLeDiff, Nat.reduceMul]
  refine callD (f107 hs1.1 hw) rfl fun r H2 ⟨y, e, hy0, hy1, hs2⟩ => ?_
  subst e
  simp only [go_sem, ↓reduceIte, Nat.reduceEqDiff, reduceCtorEq, Nat.reduceAdd, Nat.reduceLeDiff, Nat.reduceMul]
  refine callD (f107 hs2.1 hw) rfl fun r H3 ⟨z, e, hz0, hz1, hs3⟩ => ?_
  subst e
  simp only [go_sem, ↓reduceIte, Nat.reduceEqDiff, reduceCtorEq, Nat.reduceAdd, Nat.reduceLeDiff, Nat.reduceMul]
  refine callD (f107 hs3.1 hw) rfl fun r H4 ⟨u, e, hu0, hu1, hs4⟩ => ?_
  subst e
  have a1 := wrap64 (x * 16777216) (by omega) (by omega)
  have a2 := wrap64 (y * 65536) (by omega) (by omega)
  have a3 := wrap64 (x * 16777216 + y * 65536) (by omega) (by omega)
  have a4 := wrap64 (z * 256) (by omega) (by omega)
  have a5 := wrap64 (x * 16777216 + y * 65536 + z * 256) (by omega) (by omega)
  have a6 := wrap64 (x * 16777216 + y * 65536 + z * 256 + u) (by omega) (by omega)
  simp only [go_sem, ↓reduceIte, Nat.reduceEqDiff, reduceCtorEq, Nat.reduceAdd, Nat.reduceLeDiff, Nat.reduceMul, e3, a1, a2, a3, a4, a5, a6]
  exact fin (by omega) (((hs1.trans hs2).trans hs3).trans hs4)

theorem f68 {m : Md} {H : Hp} {c : Value} {id : Nat} {n : Int} (hc : Cur H c id) (hw : m.wr id = true) : Fun EE m 68 [c, .int .i64 n] H fun r H' => ∃ b : Bool, r = .bool b ∧ CS H H' c id := by
  refine fun_t rfl rfl k68 (by simp [c68]) fun m' hm => ?_
  have hw : m'.wr id = true := (hm id).trans hw
  simp only [go_sem, ↓reduceIte, Nat.reduceEqDiff, reduceCtorEq, Nat.reduceAdd, Nat.reduceLeDiff, Nat.reduceMul, c68]
  refine callD (f69 hc hw) rfl fun r H1 ⟨x, e, hx0, hx1, hx2, hs⟩ => ?_
  subst e
  simp only [go_sem, ↓reduceIte, Nat.reduceEqDiff, reduceCtorEq, Nat.reduceAdd, Nat.reduceLeDiff, Nat.reduceMul]
  exact ⟨_, rfl, hs.cut⟩

theorem f65 {m : Md} {H : Hp} {v : Value} {l : List Int} (hl : SlU H v l) : Fun EE m 65 [v] H fun r H' => Cur H' r H.length ∧ H <+: H' ∧ H'.length = H.length + 1 := by
  refine fun_f rfl rfl k65 (by simp [c65]) ?_
  have hroom := hl.room
  simp only [go_sem, ↓reduceIte, Nat.reduceEqDiff, reduceCtorEq, Nat.reduceAdd, Nat.reduceLeDiff, Nat.reduceMul, c65, hl.len]
  refine go_for 4000 (fun i s => s.H = H ∧ s.ρ 0 = .val v ∧ s.ρ 4 = .val (.int .i64 i) ∧ ∃ h : Int, s.ρ 3 = .val (.int .i64 h)) (fun s => s.H = H ∧ s.ρ 0 = .val v ∧ ∃ h : Int, s.ρ 3 = .val (.int .i64 h)) ?_ ?_ ?_
  · exact ⟨rfl, by simp [upd, ini], by simp [upd], _, by simp [upd]; rfl⟩
  · rintro i s hi ⟨hH, h0, h4, h, h3⟩
    simp only [go_sem, ↓reduceIte, Nat.reduceEqDiff, reduceCtorEq, Nat.reduceAdd, Nat.reduceLeDiff, Nat.reduceMul, h0, h3, h4, hl.len]
    refine brT.intro (fun c1 => ?_) (fun c1 => ?_) <;> simp only [go_sem, ↓reduceIte, Nat.reduceEqDiff, reduceCtorEq, Nat.reduceAdd, Nat.reduceLeDiff, Nat.reduceMul, c1, h0, h3, h4]
    · refine brT.intro (fun c2 => ?_) (fun c2 => ?_) <;> simp only [go_sem, ↓reduceIte, Nat.reduceEqDiff, reduceCtorEq, Nat.reduceAdd, Nat.reduceLeDiff, Nat.reduceMul, c1, c2, h0, h3, h4]
      · have hi2 : i < l.length := by have := of_decide_eq_true c1; omega
        have hi3 : i < 4000 := by have := of_decide_eq_true c2; omega
        obtain ⟨id, p, o, ho, hr, hia⟩ := hl.byte (List.getElem?_eq_getElem hi2)
        simp only [go_sem, ↓reduceIte, Nat.reduceEqDiff, reduceCtorEq, Nat.reduceAdd, Nat.reduceLeDiff, Nat.reduceMul, h0, h3, h4, hia, hH, ho, hr, wrap64 ((i : Int) + 1) (by omega) (by omega)]
        exact ⟨hi3, by simp, _, rfl⟩
      · exact ⟨hH, h, rfl⟩
    · exact ⟨hH, h, rfl⟩
  · rintro s ⟨hH, h0, h, h3⟩
    simp only [go_sem, ↓reduceIte, Nat.reduceEqDiff, reduceCtorEq, Nat.reduceAdd, Nat.reduceLeDiff, Nat.reduceMul, h0, h3, hH, hl.vc, exps, fillL, buildK]
    refine ⟨⟨rfl, v, 0, h, l, by simp, hl.pre (List.prefix_append _ _), by omega, hl.ids⟩, List.prefix_append _ _, by simp⟩

theorem f31 {H : Hp} {v : Value} {l : List Int} (hl : SlU H v l) : Scal EE 31 [v] H (.bool (decide ((l.length : Int) > 1048576))) := by
  refine scal_ok rfl rfl k31 (by simp [c31]) rfl fun m hw => ?_
  simp only [go_sem, ↓reduceIte, Nat.reduceEqDiff, reduceCtorEq, Nat.reduceAdd, Nat.reduceLeDiff, Nat.reduceMul, c31, hl.len]

theorem Sl.intD {H : Hp} {v : Value} {l : List Int} (h : Sl (En eI) 1 H v l) {i : Nat} {a : Int} (hi : l[i]? = some a) : ∃ id p o, H[id]? = some o ∧ o[p]? = some (.int .i64 a) ∧
    ∀ (s : St) (x y : X), exv s.ρ x = some v → exv s.ρ y = some (.int .i64 i) → iadrK s 1 x y = some (.val (.pointer (some ⟨id, p, some o.length⟩)), s) := by
  obtain ⟨id, p, o, ho, hr, hp, hia⟩ := h.elem hi
  unfold En at hr
  exact ⟨id, p, o, ho, by simpa [eI] using getElem?_of_take hr (j := 0) (by omega), hia⟩
theorem sl_ints {H : Hp} (l : List Int) (hl : l.length ≤ 9223372036854775807) : Sl (En eI) 1 (H ++ [l.map (Value.int .i64)]) (.slice (some ⟨H.length, 0, some 1⟩) l.length l.length) l :=
  .inr ⟨H.length, 0, l.length, l.map (Value.int .i64), rfl, by simp, by simp, by simp, hl, fun i a hi => by
    unfold En eI
    refine List.ext_getElem? fun j => ?_
    rw [take_drop_get]
    by_cases hj : j < 1
    · have : j = 0 := by omega
      subst this
      rw [if_pos hj, List.getElem?_map, show 0 + i * 1 + 0 = i by omega, hi]
      rfl
    · rw [if_neg hj, List.getElem?_eq_none (by simp; omega)]⟩
/-- One of some numbers. -/
theorem f66 {m : Md} {H : Hp} {c v : Value} {id : Nat} {l : List Int} (hc : Cur H c id) (hw : m.wr id = true) (hl : Sl (En eI) 1 H v l) (h0 : 0 < l.length) (hid : id ∉ idsOf v) : Fun EE m 66 [c, v] H fun r H' => ∃ x ∈ l, r = .int .i64 x ∧ CS H H' c id := by
  refine fun_t rfl rfl k66 (by simp [c66]) fun m' hm => ?_
  have hw : m'.wr id = true := (hm id).trans hw
  have hroom := hl.room
  simp only [go_sem, ↓reduceIte, Nat.reduceEqDiff, reduceCtorEq, Nat.reduceAdd, Nat.reduceLeDiff, Nat.reduceMul, c66, hl.len]
  refine callD (f69 hc hw) rfl fun r H1 ⟨x, e, hx0, hx1, hx2, hs⟩ => ?_
  subst e
  obtain ⟨k, rfl⟩ : ∃ k : Nat, x = k := ⟨x.toNat, by omega⟩
  have hk : k < l.length := by have := hx1 (by omega); omega
  obtain ⟨id2, p, o, ho, hr, hia⟩ := (hl.cs hs hid).intD (List.getElem?_eq_getElem hk)
  simp only [go_sem, ↓reduceIte, Nat.reduceEqDiff, reduceCtorEq, Nat.reduceAdd, Nat.reduceLeDiff, Nat.reduceMul, hia, ho, hr]
  exact ⟨_, List.getElem_mem hk, rfl, hs.cut⟩

theorem dslc_to {s : St} {x y : X} {b : ByteArray} {k : Nat} (hk : k ≤ b.size) (hx : exv s.ρ x = some (.string b)) (hy : exv s.ρ y = some (.int .i64 k)) : slcSK s x none (some y) = some (.val (.string (b.extract 0 k)), s) := by
  unfold slcSK
  rw [hx]
  simp only [bnd, hy]
  rw [if_pos ⟨by omega, by omega, by omega⟩]
  rfl
theorem dslc_from {s : St} {x y : X} {b : ByteArray} {k : Nat} (hk : k ≤ b.size) (hx : exv s.ρ x = some (.string b)) (hy : exv s.ρ y = some (.int .i64 k)) : slcSK s x (some y) none = some (.val (.string (b.extract k b.size)), s) := by
  unfold slcSK
  rw [hx]
  simp only [bnd, hy]
  rw [if_pos ⟨by omega, by omega, by omega⟩]
  rfl
theorem u8_nat (z : Int) : ∃ b : Nat, IntKind.u8.wrap z = (b : Int) ∧ b < 256 := by
  refine ⟨(IntKind.u8.wrap z).toNat, ?_, ?_⟩
  · simp [IntKind.wrap, IntKind.bits, IntKind.signed]
    omega
  · simp [IntKind.wrap, IntKind.bits, IntKind.signed]
    omega
theorem ne2D : ¬ ((2 : Int) = 0) := by decide
theorem ne4D : ¬ ((4 : Int) = 0) := by decide
theorem own_geD {N : Nat} {v : Value} (h : OwnS N v) : ∀ j ∈ idsOf v, N ≤ j := fun j hj => by
  rcases h with rfl | ⟨id, e, ln, cap, rfl, hid⟩
  · simp [idsOf] at hj
  · simp [idsOf] at hj; omega

/-- A text of so many bytes at most. -/
theorem f106 {m : Md} {H : Hp} {c : Value} {id : Nat} {most : Int} (hc : Cur H c id) (h0 : 0 ≤ most) (h1 : most ≤ 1000) (hw0 : Wr m H) (hw : m.wr id = true) : Fun EE m 106 [c, .int .i64 most] H fun r H' => ∃ s, r = .string s ∧ (s.size : Int) ≤ most ∧ CS H H' c id := by
  refine fun_t rfl rfl k106 (by simp [c106]) fun m' hm => ?_
  have hw : m'.wr id = true := (hm id).trans hw
  have hw0 : Wr m' H := fun j hj => (hm j).trans (hw0 j hj)
  have hidl := hc.lt
  have p0 : H <+: H ++ [[]] := List.prefix_append _ _
  simp only [go_sem, ↓reduceIte, Nat.reduceEqDiff, reduceCtorEq, Nat.reduceAdd, Nat.reduceLeDiff, Nat.reduceMul, c106, fillL]
  refine callD (f69 (hc.pre p0) hw) rfl fun r H1 ⟨st, e, hs0, hs1, _, cs1⟩ => ?_
  subst e
  simp only [go_sem, ↓reduceIte, Nat.reduceEqDiff, reduceCtorEq, Nat.reduceAdd, Nat.reduceLeDiff, Nat.reduceMul, wrap64 (most + 1) (by omega) (by omega)]
  refine callD (f69 cs1.1 hw) rfl fun r H2 ⟨k0, e, hk0, hk1, _, cs2⟩ => ?_
  subst e
  obtain ⟨k, rfl⟩ : ∃ k : Nat, k0 = k := ⟨k0.toNat, by omega⟩
  have hk := hk1 (by omega)
  have csA := cs1.trans cs2
  have own0 : SlN (H ++ [[]]) (.slice (some ⟨H.length, 0, some 1⟩) 0 (0 * 1)) [] := own_newN
  have ownH2 : SlN H2 (.slice (some ⟨H.length, 0, some 1⟩) 0 (0 * 1)) [] := own0.cs csA (by simp [idsOf]; omega)
  have cxA : CX H H2 c id := (CX.ofPre hc p0).trans csA.cx
  simp only [go_sem, ↓reduceIte, Nat.reduceEqDiff, reduceCtorEq, Nat.reduceAdd, Nat.reduceLeDiff, Nat.reduceMul]
  refine go_loop (fun n t => t.ρ 0 = .val c ∧ t.ρ 6 = .val (.int .i64 st) ∧ t.ρ 7 = .val (.int .i64 n) ∧ CX H t.H c id ∧ ∃ wv l, t.ρ 5 = .val wv ∧ SlN t.H wv l ∧ OwnS H.length wv ∧ (∀ b ∈ l, b < 256) ∧ (l.length : Int) + n ≤ most)
    (fun t => CX H t.H c id ∧ ∃ wv l, t.ρ 5 = .val wv ∧ SlN t.H wv l ∧ OwnS H.length wv ∧ (∀ b ∈ l, b < 256) ∧ (l.length : Int) ≤ most) k ?_ ?_ ?_
  · exact ⟨by simp [upd, ini], by simp [upd], by simp [upd], cxA, _, [], by simp [upd], ownH2, .inr ⟨_, _, _, _, rfl, Nat.le_refl _⟩, by simp, by simp; omega⟩
  · rintro n t ⟨k0, k6, k7, kc, wv, l, k5, ks, ko, kb, kl⟩
    simp only [go_sem, ↓reduceIte, Nat.reduceEqDiff, reduceCtorEq, Nat.reduceAdd, Nat.reduceLeDiff, Nat.reduceMul, k0, k5, k6, k7]
    refine brT.intro (fun q => ?_) (fun q => ?_) <;> simp only [go_sem, ↓reduceIte, Nat.reduceEqDiff, reduceCtorEq, Nat.reduceAdd, Nat.reduceLeDiff, Nat.reduceMul, k0, k5, k6, k7]
    rotate_left
    · exact ⟨kc, wv, l, rfl, ks, ko, kb, by have := of_decide_eq_false q; omega⟩
    have hn : 0 < n := by have := of_decide_eq_true q; omega
    refine callD (f107 kc.1 hw) rfl fun r H3 ⟨x, e, hx0, hx1, hs⟩ => ?_
    subst e
    have kc3 := kc.trans hs.cx
    have ks3 : SlN H3 wv l := ks.cs hs (fun h => by have := own_geD ko id h; omega)
    simp only [go_sem, ↓reduceIte, Nat.reduceEqDiff, reduceCtorEq, Nat.reduceAdd, Nat.reduceLeDiff, Nat.reduceMul, k0, k5, k6, k7]
    refine brT_join (fun t' => t'.H = H3 ∧ t'.ρ 0 = .val c ∧ t'.ρ 5 = .val wv ∧ t'.ρ 6 = .val (.int .i64 st) ∧ t'.ρ 7 = .val (.int .i64 n) ∧ ∃ y : Int, t'.ρ 8 = .val (.int .i64 y) ∧ 0 ≤ y ∧ y ≤ 255) (fun q1 => ?_) (fun q1 => ?_) fun t' ⟨jH, j0, j5, j6, j7, y, j8, hy0, hy1⟩ => ?_
    · simp only [go_sem, ↓reduceIte, Nat.reduceEqDiff, reduceCtorEq, Nat.reduceAdd, Nat.reduceLeDiff, Nat.reduceMul, k0, k5, k6, k7, ne2D]
      refine ⟨_, rfl, Int.tmod_nonneg _ hx0, ?_⟩
      have := Int.tmod_eq_emod_of_nonneg (b := 2) hx0
      omega
    · simp only [go_sem, ↓reduceIte, Nat.reduceEqDiff, reduceCtorEq, Nat.reduceAdd, Nat.reduceLeDiff, Nat.reduceMul, k0, k5, k6, k7]
      exact ⟨_, rfl, hx0, hx1⟩
    simp only [go_sem, ↓reduceIte, Nat.reduceEqDiff, reduceCtorEq, Nat.reduceAdd, Nat.reduceLeDiff, Nat.reduceMul, j0, j5, j6, j7, j8]
    refine brT_join (fun t' => t'.H = H3 ∧ t'.ρ 0 = .val c ∧ t'.ρ 5 = .val wv ∧ t'.ρ 6 = .val (.int .i64 st) ∧ t'.ρ 7 = .val (.int .i64 n) ∧ ∃ y : Int, t'.ρ 8 = .val (.int .i64 y) ∧ 0 ≤ y ∧ y ≤ 255) (fun q1 => ?_) (fun q1 => ?_) fun t'' ⟨iH, i0, i5, i6, i7, z, i8, hz0, hz1⟩ => ?_
    · have e4 := Int.tmod_eq_emod_of_nonneg (b := 4) hy0
      simp only [go_sem, ↓reduceIte, Nat.reduceEqDiff, reduceCtorEq, Nat.reduceAdd, Nat.reduceLeDiff, Nat.reduceMul, j0, j5, j6, j7, j8, jH, ne4D, wrap64 (97 + Int.tmod y 4) (by omega) (by omega)]
      exact ⟨_, rfl, by omega, by omega⟩
    · simp only [go_sem, ↓reduceIte, Nat.reduceEqDiff, reduceCtorEq, Nat.reduceAdd, Nat.reduceLeDiff, Nat.reduceMul, j0, j5, j6, j7, j8, jH]
      exact ⟨_, rfl, hy0, hy1⟩
    obtain ⟨z, rfl⟩ : ∃ z' : Nat, z = z' := ⟨z.toNat, by omega⟩
    obtain ⟨v2, H4, e1, e2, e3, e4, e5, e6, e7⟩ := ks3.oneN (m := m') z ko (by have := kc3.2.2; omega) hw0 (by omega)
    have kc4 : CX H H4 c id := kc3.own hidl (fun j hj => e4 j (by have := kc3.2.2; omega) (fun h => by have := own_geD ko j h; omega)) e5
    simp only [go_sem, ↓reduceIte, Nat.reduceEqDiff, reduceCtorEq, Nat.reduceAdd, Nat.reduceLeDiff, Nat.reduceMul, i0, i5, i6, i7, i8, iH, wrap8 (z : Int) (by omega) (by omega)]
    rw [e1]
    rotate_left
    · rfl
    · rfl
    · rfl
    simp only [go_sem, ↓reduceIte, Nat.reduceEqDiff, reduceCtorEq, Nat.reduceAdd, Nat.reduceLeDiff, Nat.reduceMul, i0, i5, i6, i7, i8, wrap64 ((n : Int) - 1) (by omega) (by omega)]
    refine ⟨n - 1, by omega, by congr 2; omega, kc4, v2, _, rfl, e2, e3, fun b hb => ?_, by simp; omega⟩
    rcases List.mem_append.1 hb with h | h
    · exact kb b h
    · rw [List.mem_singleton] at h; subst h; omega
  · rintro t ⟨kc, wv, l, k5, ks, ko, kb, kl⟩
    have hb := ks.b2s kb
    simp only [go_sem, ↓reduceIte, Nat.reduceEqDiff, reduceCtorEq, Nat.reduceAdd, Nat.reduceLeDiff, Nat.reduceMul, k5]
    rw [hb]
    rotate_left
    · rfl
    · rfl
    simp only [go_sem, ↓reduceIte, Nat.reduceEqDiff, reduceCtorEq, Nat.reduceAdd, Nat.reduceLeDiff, Nat.reduceMul]
    exact ⟨_, rfl, by rw [strOf_size]; exact kl, kc.cut hidl⟩

theorem sl_oneD {H : Hp} {a : Nat} : SlN (H ++ [[.int .u8 (a : Int)]]) (.slice (some ⟨H.length, 0, some 1⟩) 1 (1 * 1)) [a] := .inr ⟨H.length, 0, 1, [.int .u8 (a : Int)], rfl, by simp, by simp, by simp, by simp, fun i x hi => by
  cases i with
  | zero => simp at hi; subst hi; rfl
  | succ i => simp at hi⟩
theorem bget {b : ByteArray} {i : Nat} (h : i < b.size) : ∃ c, b[i]? = some c := ⟨_, getElem?_pos b i h⟩
theorem didx {s : St} {x y : X} {b : ByteArray} {i : Nat} {c : UInt8} (hc : b[i]? = some c) (hx : exv s.ρ x = some (.string b)) (hy : exv s.ρ y = some (.int .i64 i)) : idxK s x y = some (.val (.int .u8 c.toNat), s) := by
  unfold idxK
  rw [hx, hy]
  simp only [Int.toNat_natCast, hc]
  rw [if_pos (by omega)]
  rfl
/-- A text with a byte turned, dropped or added. -/
theorem f70 {m : Md} {H : Hp} {c : Value} {id : Nat} {s : ByteArray} (hc : Cur H c id) (hs : s.size ≤ 1000000000) (hw0 : Wr m H) (hw : m.wr id = true) : Fun EE m 70 [c, .string s] H fun r H' => ∃ t, r = .string t ∧ t.size ≤ s.size + 3 ∧ CS H H' c id := by
  refine fun_t rfl rfl k70 (by simp [c70]) fun m' hm => ?_
  have hw : m'.wr id = true := (hm id).trans hw
  have hw0 : Wr m' H := fun j hj => (hm j).trans (hw0 j hj)
  have hidl := hc.lt
  simp only [go_nil, go_blk, go_skip, go_ret, go_exit, go_seq, go_block, go_reg, go_r0, go_r, go_d0, go_d, go_e0, go_e, box2, Option.isSome_some, Nat.le_refl, go_cond, go_o, go_g, aft_some, cnd_bool, grd_bool, grd_tup, brT_true, brT_false, brT_not, thr_exit, thr_c, thr_nil, stp, stepK, movK, mv1, ex, exv, exvs, upd_some, upd_none, ini, St.val, binK, binV, ofV, pickK, unK, unV, beqK, beq_true, beq_false, if_true, if_false, List.getElem?_cons_zero, List.getElem?_cons_succ, ↓reduceIte, Nat.reduceEqDiff, reduceCtorEq, loadK, adr, deref, Ad.fv, Ad.live, fadrK, List.length_cons, List.length_nil, List.drop_zero, List.drop_succ_cons, List.take_succ_cons, List.take_zero, Nat.reduceAdd, Nat.reduceLeDiff, Nat.zero_add, Nat.add_zero, aeqK, agEq, scEq, boxVK, newVK, exc, vc_agg, vc_int, vc_bool, vc_str, vc_ptr, vc_sl, vc_fn, boxOf, adInf, List.reverse_cons, List.reverse_nil, List.nil_append, List.cons_append, extK, Bool.and_true, Bool.true_and, Bool.not_true, Bool.not_false, resT, resVs, resV, true_and, and_true, storeK, spl_nil, spl_z, spl_1, spl_2, spl_3, spl_4, spl_5, spl_6, spl_7, spl_8, scal_int, scal_bool, scal_str, scal_nil, implies_true, Bool.and_self, Post_ret, Post_normal, PostS_ret, PostS_normal, retT_true, retT_false, flat_bool, flat_int, flat_str, List.take_length, decide_true, decide_false, Option.some.injEq, Value.bool.injEq, Value.int.injEq, Bool.false_and, Bool.and_false, not_false_eq_true, not_true_eq_false, toIntK, List.length_set, Nat.reduceMul, Bool.not_eq_true, Bool.not_eq_false, List.all_cons, List.all_nil, exps, fillL, buildK, strK, nilcK, fnK, callVT, List.size_toArray, List.append_nil, List.singleton_append, boxOK, newOK, scal_nil, List.isEmpty_nil, List.isEmpty_cons, mkVK, mkOK, mkCells, zeros_0, zeros_1, zeros_2, zeros_3, zeros_4, List.map_cons, List.map_nil, c70, lenTK]
  refine brT.intro (fun q0 => ?_) (fun q0 => ?_) <;> simp only [go_nil, go_blk, go_skip, go_ret, go_exit, go_seq, go_block, go_reg, go_r0, go_r, go_d0, go_d, go_e0, go_e, box2, Option.isSome_some, Nat.le_refl, go_cond, go_o, go_g, aft_some, cnd_bool, grd_bool, grd_tup, brT_true, brT_false, brT_not, thr_exit, thr_c, thr_nil, stp, stepK, movK, mv1, ex, exv, exvs, upd_some, upd_none, ini, St.val, binK, binV, ofV, pickK, unK, unV, beqK, beq_true, beq_false, if_true, if_false, List.getElem?_cons_zero, List.getElem?_cons_succ, ↓reduceIte, Nat.reduceEqDiff, reduceCtorEq, loadK, adr, deref, Ad.fv, Ad.live, fadrK, List.length_cons, List.length_nil, List.drop_zero, List.drop_succ_cons, List.take_succ_cons, List.take_zero, Nat.reduceAdd, Nat.reduceLeDiff, Nat.zero_add, Nat.add_zero, aeqK, agEq, scEq, boxVK, newVK, exc, vc_agg, vc_int, vc_bool, vc_str, vc_ptr, vc_sl, vc_fn, boxOf, adInf, List.reverse_cons, List.reverse_nil, List.nil_append, List.cons_append, extK, Bool.and_true, Bool.true_and, Bool.not_true, Bool.not_false, resT, resVs, resV, true_and, and_true, storeK, spl_nil, spl_z, spl_1, spl_2, spl_3, spl_4, spl_5, spl_6, spl_7, spl_8, scal_int, scal_bool, scal_str, scal_nil, implies_true, Bool.and_self, Post_ret, Post_normal, PostS_ret, PostS_normal, retT_true, retT_false, flat_bool, flat_int, flat_str, List.take_length, decide_true, decide_false, Option.some.injEq, Value.bool.injEq, Value.int.injEq, Bool.false_and, Bool.and_false, not_false_eq_true, not_true_eq_false, toIntK, List.length_set, Nat.reduceMul, Bool.not_eq_true, Bool.not_eq_false, List.all_cons, List.all_nil, exps, fillL, buildK, strK, nilcK, fnK, callVT, List.size_toArray, List.append_nil, List.singleton_append, boxOK, newOK, scal_nil, List.isEmpty_nil, List.isEmpty_cons, mkVK, mkOK, mkCells, zeros_0, zeros_1, zeros_2, zeros_3, zeros_4, List.map_cons, List.map_nil, lenTK]
  · refine callD (f106 hc (by omega) (by omega) hw0 hw) rfl fun r H1 ⟨t, e, ht, cs1⟩ => ?_
    subst e
    simp only [go_nil, go_blk, go_skip, go_ret, go_exit, go_seq, go_block, go_reg, go_r0, go_r, go_d0, go_d, go_e0, go_e, box2, Option.isSome_some, Nat.le_refl, go_cond, go_o, go_g, aft_some, cnd_bool, grd_bool, grd_tup, brT_true, brT_false, brT_not, thr_exit, thr_c, thr_nil, stp, stepK, movK, mv1, ex, exv, exvs, upd_some, upd_none, ini, St.val, binK, binV, ofV, pickK, unK, unV, beqK, beq_true, beq_false, if_true, if_false, List.getElem?_cons_zero, List.getElem?_cons_succ, ↓reduceIte, Nat.reduceEqDiff, reduceCtorEq, loadK, adr, deref, Ad.fv, Ad.live, fadrK, List.length_cons, List.length_nil, List.drop_zero, List.drop_succ_cons, List.take_succ_cons, List.take_zero, Nat.reduceAdd, Nat.reduceLeDiff, Nat.zero_add, Nat.add_zero, aeqK, agEq, scEq, boxVK, newVK, exc, vc_agg, vc_int, vc_bool, vc_str, vc_ptr, vc_sl, vc_fn, boxOf, adInf, List.reverse_cons, List.reverse_nil, List.nil_append, List.cons_append, extK, Bool.and_true, Bool.true_and, Bool.not_true, Bool.not_false, resT, resVs, resV, true_and, and_true, storeK, spl_nil, spl_z, spl_1, spl_2, spl_3, spl_4, spl_5, spl_6, spl_7, spl_8, scal_int, scal_bool, scal_str, scal_nil, implies_true, Bool.and_self, Post_ret, Post_normal, PostS_ret, PostS_normal, retT_true, retT_false, flat_bool, flat_int, flat_str, List.take_length, decide_true, decide_false, Option.some.injEq, Value.bool.injEq, Value.int.injEq, Bool.false_and, Bool.and_false, not_false_eq_true, not_true_eq_false, toIntK, List.length_set, Nat.reduceMul, Bool.not_eq_true, Bool.not_eq_false, List.all_cons, List.all_nil, exps, fillL, buildK, strK, nilcK, fnK, callVT, List.size_toArray, List.append_nil, List.singleton_append, boxOK, newOK, scal_nil, List.isEmpty_nil, List.isEmpty_cons, mkVK, mkOK, mkCells, zeros_0, zeros_1, zeros_2, zeros_3, zeros_4, List.map_cons, List.map_nil]
    exact ⟨t, rfl, by omega, cs1.cut⟩
  have hsp : 0 < s.size := by have := of_decide_eq_false q0; omega
  refine callD (f69 hc hw) rfl fun r H1 ⟨k0, e, hk0, hk1, _, cs1⟩ => ?_
  subst e
  obtain ⟨k, rfl⟩ : ∃ k : Nat, k0 = k := ⟨k0.toNat, by omega⟩
  have hk : k < s.size := by have := hk1 (by omega); omega
  simp only [go_nil, go_blk, go_skip, go_ret, go_exit, go_seq, go_block, go_reg, go_r0, go_r, go_d0, go_d, go_e0, go_e, box2, Option.isSome_some, Nat.le_refl, go_cond, go_o, go_g, aft_some, cnd_bool, grd_bool, grd_tup, brT_true, brT_false, brT_not, thr_exit, thr_c, thr_nil, stp, stepK, movK, mv1, ex, exv, exvs, upd_some, upd_none, ini, St.val, binK, binV, ofV, pickK, unK, unV, beqK, beq_true, beq_false, if_true, if_false, List.getElem?_cons_zero, List.getElem?_cons_succ, ↓reduceIte, Nat.reduceEqDiff, reduceCtorEq, loadK, adr, deref, Ad.fv, Ad.live, fadrK, List.length_cons, List.length_nil, List.drop_zero, List.drop_succ_cons, List.take_succ_cons, List.take_zero, Nat.reduceAdd, Nat.reduceLeDiff, Nat.zero_add, Nat.add_zero, aeqK, agEq, scEq, boxVK, newVK, exc, vc_agg, vc_int, vc_bool, vc_str, vc_ptr, vc_sl, vc_fn, boxOf, adInf, List.reverse_cons, List.reverse_nil, List.nil_append, List.cons_append, extK, Bool.and_true, Bool.true_and, Bool.not_true, Bool.not_false, resT, resVs, resV, true_and, and_true, storeK, spl_nil, spl_z, spl_1, spl_2, spl_3, spl_4, spl_5, spl_6, spl_7, spl_8, scal_int, scal_bool, scal_str, scal_nil, implies_true, Bool.and_self, Post_ret, Post_normal, PostS_ret, PostS_normal, retT_true, retT_false, flat_bool, flat_int, flat_str, List.take_length, decide_true, decide_false, Option.some.injEq, Value.bool.injEq, Value.int.injEq, Bool.false_and, Bool.and_false, not_false_eq_true, not_true_eq_false, toIntK, List.length_set, Nat.reduceMul, Bool.not_eq_true, Bool.not_eq_false, List.all_cons, List.all_nil, exps, fillL, buildK, strK, nilcK, fnK, callVT, List.size_toArray, List.append_nil, List.singleton_append, boxOK, newOK, scal_nil, List.isEmpty_nil, List.isEmpty_cons, mkVK, mkOK, mkCells, zeros_0, zeros_1, zeros_2, zeros_3, zeros_4, List.map_cons, List.map_nil]
  refine callD (f69 cs1.1 hw) rfl fun r H2 ⟨w, e, hw1, hw2, _, cs2⟩ => ?_
  subst e
  have csA := cs1.trans cs2
  have nA : H2.length = H.length := csA.2.2
  have hw2 : Wr m' H2 := fun j hj => hw0 j (by omega)
  have hto := fun {t : St} {x y : X} => dslc_to (s := t) (x := x) (y := y) (b := s) (k := k) (by omega)
  have hfrom := fun {t : St} {x y : X} => dslc_from (s := t) (x := x) (y := y) (b := s) (k := k) (by omega)
  have hfrom1 : ∀ {t : St} {x y : X}, exv t.ρ x = some (.string s) → exv t.ρ y = some (.int .i64 ((k : Int) + 1)) → slcSK t x (some y) none = some (.val (.string (s.extract (k + 1) s.size)), t) := fun hx hy => dslc_from (k := k + 1) (by omega) hx (by rw [hy]; rfl)
  have z1 : (s.extract 0 k).size = k := by rw [ByteArray.size_extract]; omega
  have z2 : (s.extract k s.size).size = s.size - k := by rw [ByteArray.size_extract]; omega
  have z3 : (s.extract (k + 1) s.size).size = s.size - (k + 1) := by rw [ByteArray.size_extract]; omega
  have zo : ∀ b : Nat, (strOf [b]).size = 1 := fun b => strOf_size _
  have wk := wrap64 ((k : Int) + 1) (by omega) (by omega)
  have a1 : (s.extract 0 k).size + (s.extract (k + 1) s.size).size ≤ 9223372036854775807 := by omega
  have a2 : ∀ b : Nat, (s.extract 0 k).size + (strOf [b]).size ≤ 9223372036854775807 := fun b => by rw [zo]; omega
  have a3 : ∀ b : Nat, (s.extract 0 k ++ strOf [b]).size + (s.extract k s.size).size ≤ 9223372036854775807 := fun b => by rw [ByteArray.size_append, zo]; omega
  have a4 : ∀ b : Nat, (s.extract 0 k ++ strOf [b]).size + (s.extract (k + 1) s.size).size ≤ 9223372036854775807 := fun b => by rw [ByteArray.size_append, zo]; omega
  simp only [go_nil, go_blk, go_skip, go_ret, go_exit, go_seq, go_block, go_reg, go_r0, go_r, go_d0, go_d, go_e0, go_e, box2, Option.isSome_some, Nat.le_refl, go_cond, go_o, go_g, aft_some, cnd_bool, grd_bool, grd_tup, brT_true, brT_false, brT_not, thr_exit, thr_c, thr_nil, stp, stepK, movK, mv1, ex, exv, exvs, upd_some, upd_none, ini, St.val, binK, binV, ofV, pickK, unK, unV, beqK, beq_true, beq_false, if_true, if_false, List.getElem?_cons_zero, List.getElem?_cons_succ, ↓reduceIte, Nat.reduceEqDiff, reduceCtorEq, loadK, adr, deref, Ad.fv, Ad.live, fadrK, List.length_cons, List.length_nil, List.drop_zero, List.drop_succ_cons, List.take_succ_cons, List.take_zero, Nat.reduceAdd, Nat.reduceLeDiff, Nat.zero_add, Nat.add_zero, aeqK, agEq, scEq, boxVK, newVK, exc, vc_agg, vc_int, vc_bool, vc_str, vc_ptr, vc_sl, vc_fn, boxOf, adInf, List.reverse_cons, List.reverse_nil, List.nil_append, List.cons_append, extK, Bool.and_true, Bool.true_and, Bool.not_true, Bool.not_false, resT, resVs, resV, true_and, and_true, storeK, spl_nil, spl_z, spl_1, spl_2, spl_3, spl_4, spl_5, spl_6, spl_7, spl_8, scal_int, scal_bool, scal_str, scal_nil, implies_true, Bool.and_self, Post_ret, Post_normal, PostS_ret, PostS_normal, retT_true, retT_false, flat_bool, flat_int, flat_str, List.take_length, decide_true, decide_false, Option.some.injEq, Value.bool.injEq, Value.int.injEq, Bool.false_and, Bool.and_false, not_false_eq_true, not_true_eq_false, toIntK, List.length_set, Nat.reduceMul, Bool.not_eq_true, Bool.not_eq_false, List.all_cons, List.all_nil, exps, fillL, buildK, strK, nilcK, fnK, callVT, List.size_toArray, List.append_nil, List.singleton_append, boxOK, newOK, scal_nil, List.isEmpty_nil, List.isEmpty_cons, mkVK, mkOK, mkCells, zeros_0, zeros_1, zeros_2, zeros_3, zeros_4, List.map_cons, List.map_nil]
  refine brT.intro (fun q1 => ?_) (fun q1 => ?_) <;> simp only [go_nil, go_blk, go_skip, go_ret, go_exit, go_seq, go_block, go_reg, go_r0, go_r, go_d0, go_d, go_e0, go_e, box2, Option.isSome_some, Nat.le_refl, go_cond, go_o, go_g, aft_some, cnd_bool, grd_bool, grd_tup, brT_true, brT_false, brT_not, thr_exit, thr_c, thr_nil, stp, stepK, movK, mv1, ex, exv, exvs, upd_some, upd_none, ini, St.val, binK, binV, ofV, pickK, unK, unV, beqK, beq_true, beq_false, if_true, if_false, List.getElem?_cons_zero, List.getElem?_cons_succ, ↓reduceIte, Nat.reduceEqDiff, reduceCtorEq, loadK, adr, deref, Ad.fv, Ad.live, fadrK, List.length_cons, List.length_nil, List.drop_zero, List.drop_succ_cons, List.take_succ_cons, List.take_zero, Nat.reduceAdd, Nat.reduceLeDiff, Nat.zero_add, Nat.add_zero, aeqK, agEq, scEq, boxVK, newVK, exc, vc_agg, vc_int, vc_bool, vc_str, vc_ptr, vc_sl, vc_fn, boxOf, adInf, List.reverse_cons, List.reverse_nil, List.nil_append, List.cons_append, extK, Bool.and_true, Bool.true_and, Bool.not_true, Bool.not_false, resT, resVs, resV, true_and, and_true, storeK, spl_nil, spl_z, spl_1, spl_2, spl_3, spl_4, spl_5, spl_6, spl_7, spl_8, scal_int, scal_bool, scal_str, scal_nil, implies_true, Bool.and_self, Post_ret, Post_normal, PostS_ret, PostS_normal, retT_true, retT_false, flat_bool, flat_int, flat_str, List.take_length, decide_true, decide_false, Option.some.injEq, Value.bool.injEq, Value.int.injEq, Bool.false_and, Bool.and_false, not_false_eq_true, not_true_eq_false, toIntK, List.length_set, Nat.reduceMul, Bool.not_eq_true, Bool.not_eq_false, List.all_cons, List.all_nil, exps, fillL, buildK, strK, nilcK, fnK, callVT, List.size_toArray, List.append_nil, List.singleton_append, boxOK, newOK, scal_nil, List.isEmpty_nil, List.isEmpty_cons, mkVK, mkOK, mkCells, zeros_0, zeros_1, zeros_2, zeros_3, zeros_4, List.map_cons, List.map_nil]
  · refine go_draw ?_
    simp only [go_nil, go_blk, go_skip, go_ret, go_exit, go_seq, go_block, go_reg, go_r0, go_r, go_d0, go_d, go_e0, go_e, box2, Option.isSome_some, Nat.le_refl, go_cond, go_o, go_g, aft_some, cnd_bool, grd_bool, grd_tup, brT_true, brT_false, brT_not, thr_exit, thr_c, thr_nil, stp, stepK, movK, mv1, ex, exv, exvs, upd_some, upd_none, ini, St.val, binK, binV, ofV, pickK, unK, unV, beqK, beq_true, beq_false, if_true, if_false, List.getElem?_cons_zero, List.getElem?_cons_succ, ↓reduceIte, Nat.reduceEqDiff, reduceCtorEq, loadK, adr, deref, Ad.fv, Ad.live, fadrK, List.length_cons, List.length_nil, List.drop_zero, List.drop_succ_cons, List.take_succ_cons, List.take_zero, Nat.reduceAdd, Nat.reduceLeDiff, Nat.zero_add, Nat.add_zero, aeqK, agEq, scEq, boxVK, newVK, exc, vc_agg, vc_int, vc_bool, vc_str, vc_ptr, vc_sl, vc_fn, boxOf, adInf, List.reverse_cons, List.reverse_nil, List.nil_append, List.cons_append, extK, Bool.and_true, Bool.true_and, Bool.not_true, Bool.not_false, resT, resVs, resV, true_and, and_true, storeK, spl_nil, spl_z, spl_1, spl_2, spl_3, spl_4, spl_5, spl_6, spl_7, spl_8, scal_int, scal_bool, scal_str, scal_nil, implies_true, Bool.and_self, Post_ret, Post_normal, PostS_ret, PostS_normal, retT_true, retT_false, flat_bool, flat_int, flat_str, List.take_length, decide_true, decide_false, Option.some.injEq, Value.bool.injEq, Value.int.injEq, Bool.false_and, Bool.and_false, not_false_eq_true, not_true_eq_false, toIntK, List.length_set, Nat.reduceMul, Bool.not_eq_true, Bool.not_eq_false, List.all_cons, List.all_nil, exps, fillL, buildK, strK, nilcK, fnK, callVT, List.size_toArray, List.append_nil, List.singleton_append, boxOK, newOK, scal_nil, List.isEmpty_nil, List.isEmpty_cons, mkVK, mkOK, mkCells, zeros_0, zeros_1, zeros_2, zeros_3, zeros_4, List.map_cons, List.map_nil, hto, wk, hfrom1, a1]
    refine ⟨by rfl, ?_⟩
    exact ⟨_, rfl, by rw [ByteArray.size_append]; omega, csA.cut⟩
  refine brT.intro (fun q2 => ?_) (fun q2 => ?_) <;> simp only [go_nil, go_blk, go_skip, go_ret, go_exit, go_seq, go_block, go_reg, go_r0, go_r, go_d0, go_d, go_e0, go_e, box2, Option.isSome_some, Nat.le_refl, go_cond, go_o, go_g, aft_some, cnd_bool, grd_bool, grd_tup, brT_true, brT_false, brT_not, thr_exit, thr_c, thr_nil, stp, stepK, movK, mv1, ex, exv, exvs, upd_some, upd_none, ini, St.val, binK, binV, ofV, pickK, unK, unV, beqK, beq_true, beq_false, if_true, if_false, List.getElem?_cons_zero, List.getElem?_cons_succ, ↓reduceIte, Nat.reduceEqDiff, reduceCtorEq, loadK, adr, deref, Ad.fv, Ad.live, fadrK, List.length_cons, List.length_nil, List.drop_zero, List.drop_succ_cons, List.take_succ_cons, List.take_zero, Nat.reduceAdd, Nat.reduceLeDiff, Nat.zero_add, Nat.add_zero, aeqK, agEq, scEq, boxVK, newVK, exc, vc_agg, vc_int, vc_bool, vc_str, vc_ptr, vc_sl, vc_fn, boxOf, adInf, List.reverse_cons, List.reverse_nil, List.nil_append, List.cons_append, extK, Bool.and_true, Bool.true_and, Bool.not_true, Bool.not_false, resT, resVs, resV, true_and, and_true, storeK, spl_nil, spl_z, spl_1, spl_2, spl_3, spl_4, spl_5, spl_6, spl_7, spl_8, scal_int, scal_bool, scal_str, scal_nil, implies_true, Bool.and_self, Post_ret, Post_normal, PostS_ret, PostS_normal, retT_true, retT_false, flat_bool, flat_int, flat_str, List.take_length, decide_true, decide_false, Option.some.injEq, Value.bool.injEq, Value.int.injEq, Bool.false_and, Bool.and_false, not_false_eq_true, not_true_eq_false, toIntK, List.length_set, Nat.reduceMul, Bool.not_eq_true, Bool.not_eq_false, List.all_cons, List.all_nil, exps, fillL, buildK, strK, nilcK, fnK, callVT, List.size_toArray, List.append_nil, List.singleton_append, boxOK, newOK, scal_nil, List.isEmpty_nil, List.isEmpty_cons, mkVK, mkOK, mkCells, zeros_0, zeros_1, zeros_2, zeros_3, zeros_4, List.map_cons, List.map_nil]
  · refine go_draw ?_
    simp only [go_nil, go_blk, go_skip, go_ret, go_exit, go_seq, go_block, go_reg, go_r0, go_r, go_d0, go_d, go_e0, go_e, box2, Option.isSome_some, Nat.le_refl, go_cond, go_o, go_g, aft_some, cnd_bool, grd_bool, grd_tup, brT_true, brT_false, brT_not, thr_exit, thr_c, thr_nil, stp, stepK, movK, mv1, ex, exv, exvs, upd_some, upd_none, ini, St.val, binK, binV, ofV, pickK, unK, unV, beqK, beq_true, beq_false, if_true, if_false, List.getElem?_cons_zero, List.getElem?_cons_succ, ↓reduceIte, Nat.reduceEqDiff, reduceCtorEq, loadK, adr, deref, Ad.fv, Ad.live, fadrK, List.length_cons, List.length_nil, List.drop_zero, List.drop_succ_cons, List.take_succ_cons, List.take_zero, Nat.reduceAdd, Nat.reduceLeDiff, Nat.zero_add, Nat.add_zero, aeqK, agEq, scEq, boxVK, newVK, exc, vc_agg, vc_int, vc_bool, vc_str, vc_ptr, vc_sl, vc_fn, boxOf, adInf, List.reverse_cons, List.reverse_nil, List.nil_append, List.cons_append, extK, Bool.and_true, Bool.true_and, Bool.not_true, Bool.not_false, resT, resVs, resV, true_and, and_true, storeK, spl_nil, spl_z, spl_1, spl_2, spl_3, spl_4, spl_5, spl_6, spl_7, spl_8, scal_int, scal_bool, scal_str, scal_nil, implies_true, Bool.and_self, Post_ret, Post_normal, PostS_ret, PostS_normal, retT_true, retT_false, flat_bool, flat_int, flat_str, List.take_length, decide_true, decide_false, Option.some.injEq, Value.bool.injEq, Value.int.injEq, Bool.false_and, Bool.and_false, not_false_eq_true, not_true_eq_false, toIntK, List.length_set, Nat.reduceMul, Bool.not_eq_true, Bool.not_eq_false, List.all_cons, List.all_nil, exps, fillL, buildK, strK, nilcK, fnK, callVT, List.size_toArray, List.append_nil, List.singleton_append, boxOK, newOK, scal_nil, List.isEmpty_nil, List.isEmpty_cons, mkVK, mkOK, mkCells, zeros_0, zeros_1, zeros_2, zeros_3, zeros_4, List.map_cons, List.map_nil, hto]
    refine callT_arg (H := H2) rfl (fun m'' _ h2 _ => f107 csA.1 (h2 id (by obtain ⟨rfl, _⟩ := hc; simp [idsOf]) hw)) rfl hw2 fun r H3 ⟨x, e, hx0, hx1, cs3⟩ => ?_
    subst e
    obtain ⟨x, rfl⟩ : ∃ x' : Nat, x = x' := ⟨x.toNat, by omega⟩
    have hb := (sl_oneD (H := H3) (a := x)).b2s (fun n hn => by simp at hn; omega)
    simp only [go_nil, go_blk, go_skip, go_ret, go_exit, go_seq, go_block, go_reg, go_r0, go_r, go_d0, go_d, go_e0, go_e, box2, Option.isSome_some, Nat.le_refl, go_cond, go_o, go_g, aft_some, cnd_bool, grd_bool, grd_tup, brT_true, brT_false, brT_not, thr_exit, thr_c, thr_nil, stp, stepK, movK, mv1, ex, exv, exvs, upd_some, upd_none, ini, St.val, binK, binV, ofV, pickK, unK, unV, beqK, beq_true, beq_false, if_true, if_false, List.getElem?_cons_zero, List.getElem?_cons_succ, ↓reduceIte, Nat.reduceEqDiff, reduceCtorEq, loadK, adr, deref, Ad.fv, Ad.live, fadrK, List.length_cons, List.length_nil, List.drop_zero, List.drop_succ_cons, List.take_succ_cons, List.take_zero, Nat.reduceAdd, Nat.reduceLeDiff, Nat.zero_add, Nat.add_zero, aeqK, agEq, scEq, boxVK, newVK, exc, vc_agg, vc_int, vc_bool, vc_str, vc_ptr, vc_sl, vc_fn, boxOf, adInf, List.reverse_cons, List.reverse_nil, List.nil_append, List.cons_append, extK, Bool.and_true, Bool.true_and, Bool.not_true, Bool.not_false, resT, resVs, resV, true_and, and_true, storeK, spl_nil, spl_z, spl_1, spl_2, spl_3, spl_4, spl_5, spl_6, spl_7, spl_8, scal_int, scal_bool, scal_str, scal_nil, implies_true, Bool.and_self, Post_ret, Post_normal, PostS_ret, PostS_normal, retT_true, retT_false, flat_bool, flat_int, flat_str, List.take_length, decide_true, decide_false, Option.some.injEq, Value.bool.injEq, Value.int.injEq, Bool.false_and, Bool.and_false, not_false_eq_true, not_true_eq_false, toIntK, List.length_set, Nat.reduceMul, Bool.not_eq_true, Bool.not_eq_false, List.all_cons, List.all_nil, exps, fillL, buildK, strK, nilcK, fnK, callVT, List.size_toArray, List.append_nil, List.singleton_append, boxOK, newOK, scal_nil, List.isEmpty_nil, List.isEmpty_cons, mkVK, mkOK, mkCells, zeros_0, zeros_1, zeros_2, zeros_3, zeros_4, List.map_cons, List.map_nil, hto, wrap8 (x : Int) (by omega) (by omega)]
    rw [hb]
    rotate_left
    · rfl
    · rfl
    simp only [go_nil, go_blk, go_skip, go_ret, go_exit, go_seq, go_block, go_reg, go_r0, go_r, go_d0, go_d, go_e0, go_e, box2, Option.isSome_some, Nat.le_refl, go_cond, go_o, go_g, aft_some, cnd_bool, grd_bool, grd_tup, brT_true, brT_false, brT_not, thr_exit, thr_c, thr_nil, stp, stepK, movK, mv1, ex, exv, exvs, upd_some, upd_none, ini, St.val, binK, binV, ofV, pickK, unK, unV, beqK, beq_true, beq_false, if_true, if_false, List.getElem?_cons_zero, List.getElem?_cons_succ, ↓reduceIte, Nat.reduceEqDiff, reduceCtorEq, loadK, adr, deref, Ad.fv, Ad.live, fadrK, List.length_cons, List.length_nil, List.drop_zero, List.drop_succ_cons, List.take_succ_cons, List.take_zero, Nat.reduceAdd, Nat.reduceLeDiff, Nat.zero_add, Nat.add_zero, aeqK, agEq, scEq, boxVK, newVK, exc, vc_agg, vc_int, vc_bool, vc_str, vc_ptr, vc_sl, vc_fn, boxOf, adInf, List.reverse_cons, List.reverse_nil, List.nil_append, List.cons_append, extK, Bool.and_true, Bool.true_and, Bool.not_true, Bool.not_false, resT, resVs, resV, true_and, and_true, storeK, spl_nil, spl_z, spl_1, spl_2, spl_3, spl_4, spl_5, spl_6, spl_7, spl_8, scal_int, scal_bool, scal_str, scal_nil, implies_true, Bool.and_self, Post_ret, Post_normal, PostS_ret, PostS_normal, retT_true, retT_false, flat_bool, flat_int, flat_str, List.take_length, decide_true, decide_false, Option.some.injEq, Value.bool.injEq, Value.int.injEq, Bool.false_and, Bool.and_false, not_false_eq_true, not_true_eq_false, toIntK, List.length_set, Nat.reduceMul, Bool.not_eq_true, Bool.not_eq_false, List.all_cons, List.all_nil, exps, fillL, buildK, strK, nilcK, fnK, callVT, List.size_toArray, List.append_nil, List.singleton_append, boxOK, newOK, scal_nil, List.isEmpty_nil, List.isEmpty_cons, mkVK, mkOK, mkCells, zeros_0, zeros_1, zeros_2, zeros_3, zeros_4, List.map_cons, List.map_nil, hfrom, a2, a3]
    refine ⟨by rfl, ?_⟩
    have csB := csA.trans cs3
    have hcx : CX H (H3 ++ [[.int .u8 (x : Int)]]) c id := csB.cx.trans (CX.ofPre csB.1 (List.prefix_append _ _))
    exact ⟨_, rfl, by rw [ByteArray.size_append, ByteArray.size_append, zo]; omega, hcx.cut hidl⟩
  refine brT.intro (fun q3 => ?_) (fun q3 => ?_) <;> simp only [go_nil, go_blk, go_skip, go_ret, go_exit, go_seq, go_block, go_reg, go_r0, go_r, go_d0, go_d, go_e0, go_e, box2, Option.isSome_some, Nat.le_refl, go_cond, go_o, go_g, aft_some, cnd_bool, grd_bool, grd_tup, brT_true, brT_false, brT_not, thr_exit, thr_c, thr_nil, stp, stepK, movK, mv1, ex, exv, exvs, upd_some, upd_none, ini, St.val, binK, binV, ofV, pickK, unK, unV, beqK, beq_true, beq_false, if_true, if_false, List.getElem?_cons_zero, List.getElem?_cons_succ, ↓reduceIte, Nat.reduceEqDiff, reduceCtorEq, loadK, adr, deref, Ad.fv, Ad.live, fadrK, List.length_cons, List.length_nil, List.drop_zero, List.drop_succ_cons, List.take_succ_cons, List.take_zero, Nat.reduceAdd, Nat.reduceLeDiff, Nat.zero_add, Nat.add_zero, aeqK, agEq, scEq, boxVK, newVK, exc, vc_agg, vc_int, vc_bool, vc_str, vc_ptr, vc_sl, vc_fn, boxOf, adInf, List.reverse_cons, List.reverse_nil, List.nil_append, List.cons_append, extK, Bool.and_true, Bool.true_and, Bool.not_true, Bool.not_false, resT, resVs, resV, true_and, and_true, storeK, spl_nil, spl_z, spl_1, spl_2, spl_3, spl_4, spl_5, spl_6, spl_7, spl_8, scal_int, scal_bool, scal_str, scal_nil, implies_true, Bool.and_self, Post_ret, Post_normal, PostS_ret, PostS_normal, retT_true, retT_false, flat_bool, flat_int, flat_str, List.take_length, decide_true, decide_false, Option.some.injEq, Value.bool.injEq, Value.int.injEq, Bool.false_and, Bool.and_false, not_false_eq_true, not_true_eq_false, toIntK, List.length_set, Nat.reduceMul, Bool.not_eq_true, Bool.not_eq_false, List.all_cons, List.all_nil, exps, fillL, buildK, strK, nilcK, fnK, callVT, List.size_toArray, List.append_nil, List.singleton_append, boxOK, newOK, scal_nil, List.isEmpty_nil, List.isEmpty_cons, mkVK, mkOK, mkCells, zeros_0, zeros_1, zeros_2, zeros_3, zeros_4, List.map_cons, List.map_nil]
  · simp only [go_nil, go_blk, go_skip, go_ret, go_exit, go_seq, go_block, go_reg, go_r0, go_r, go_d0, go_d, go_e0, go_e, box2, Option.isSome_some, Nat.le_refl, go_cond, go_o, go_g, aft_some, cnd_bool, grd_bool, grd_tup, brT_true, brT_false, brT_not, thr_exit, thr_c, thr_nil, stp, stepK, movK, mv1, ex, exv, exvs, upd_some, upd_none, ini, St.val, binK, binV, ofV, pickK, unK, unV, beqK, beq_true, beq_false, if_true, if_false, List.getElem?_cons_zero, List.getElem?_cons_succ, ↓reduceIte, Nat.reduceEqDiff, reduceCtorEq, loadK, adr, deref, Ad.fv, Ad.live, fadrK, List.length_cons, List.length_nil, List.drop_zero, List.drop_succ_cons, List.take_succ_cons, List.take_zero, Nat.reduceAdd, Nat.reduceLeDiff, Nat.zero_add, Nat.add_zero, aeqK, agEq, scEq, boxVK, newVK, exc, vc_agg, vc_int, vc_bool, vc_str, vc_ptr, vc_sl, vc_fn, boxOf, adInf, List.reverse_cons, List.reverse_nil, List.nil_append, List.cons_append, extK, Bool.and_true, Bool.true_and, Bool.not_true, Bool.not_false, resT, resVs, resV, true_and, and_true, storeK, spl_nil, spl_z, spl_1, spl_2, spl_3, spl_4, spl_5, spl_6, spl_7, spl_8, scal_int, scal_bool, scal_str, scal_nil, implies_true, Bool.and_self, Post_ret, Post_normal, PostS_ret, PostS_normal, retT_true, retT_false, flat_bool, flat_int, flat_str, List.take_length, decide_true, decide_false, Option.some.injEq, Value.bool.injEq, Value.int.injEq, Bool.false_and, Bool.and_false, not_false_eq_true, not_true_eq_false, toIntK, List.length_set, Nat.reduceMul, Bool.not_eq_true, Bool.not_eq_false, List.all_cons, List.all_nil, exps, fillL, buildK, strK, nilcK, fnK, callVT, List.size_toArray, List.append_nil, List.singleton_append, boxOK, newOK, scal_nil, List.isEmpty_nil, List.isEmpty_cons, mkVK, mkOK, mkCells, zeros_0, zeros_1, zeros_2, zeros_3, zeros_4, List.map_cons, List.map_nil, hto]
    exact ⟨_, rfl, by omega, csA.cut⟩
  · obtain ⟨ch, hch⟩ := bget hk
    have hix := fun {t : St} {x y : X} => didx (s := t) (x := x) (y := y) hch
    refine go_draw ?_
    simp only [go_nil, go_blk, go_skip, go_ret, go_exit, go_seq, go_block, go_reg, go_r0, go_r, go_d0, go_d, go_e0, go_e, box2, Option.isSome_some, Nat.le_refl, go_cond, go_o, go_g, aft_some, cnd_bool, grd_bool, grd_tup, brT_true, brT_false, brT_not, thr_exit, thr_c, thr_nil, stp, stepK, movK, mv1, ex, exv, exvs, upd_some, upd_none, ini, St.val, binK, binV, ofV, pickK, unK, unV, beqK, beq_true, beq_false, if_true, if_false, List.getElem?_cons_zero, List.getElem?_cons_succ, ↓reduceIte, Nat.reduceEqDiff, reduceCtorEq, loadK, adr, deref, Ad.fv, Ad.live, fadrK, List.length_cons, List.length_nil, List.drop_zero, List.drop_succ_cons, List.take_succ_cons, List.take_zero, Nat.reduceAdd, Nat.reduceLeDiff, Nat.zero_add, Nat.add_zero, aeqK, agEq, scEq, boxVK, newVK, exc, vc_agg, vc_int, vc_bool, vc_str, vc_ptr, vc_sl, vc_fn, boxOf, adInf, List.reverse_cons, List.reverse_nil, List.nil_append, List.cons_append, extK, Bool.and_true, Bool.true_and, Bool.not_true, Bool.not_false, resT, resVs, resV, true_and, and_true, storeK, spl_nil, spl_z, spl_1, spl_2, spl_3, spl_4, spl_5, spl_6, spl_7, spl_8, scal_int, scal_bool, scal_str, scal_nil, implies_true, Bool.and_self, Post_ret, Post_normal, PostS_ret, PostS_normal, retT_true, retT_false, flat_bool, flat_int, flat_str, List.take_length, decide_true, decide_false, Option.some.injEq, Value.bool.injEq, Value.int.injEq, Bool.false_and, Bool.and_false, not_false_eq_true, not_true_eq_false, toIntK, List.length_set, Nat.reduceMul, Bool.not_eq_true, Bool.not_eq_false, List.all_cons, List.all_nil, exps, fillL, buildK, strK, nilcK, fnK, callVT, List.size_toArray, List.append_nil, List.singleton_append, boxOK, newOK, scal_nil, List.isEmpty_nil, List.isEmpty_cons, mkVK, mkOK, mkCells, zeros_0, zeros_1, zeros_2, zeros_3, zeros_4, List.map_cons, List.map_nil, hto, hix]
    refine callT_arg (H := H2) rfl (fun m'' _ h2 _ => f69 csA.1 (h2 id (by obtain ⟨rfl, _⟩ := hc; simp [idsOf]) hw)) rfl hw2 fun r H3 ⟨x, e, hx0, hx1, hx2, cs3⟩ => ?_
    subst e
    simp only [go_nil, go_blk, go_skip, go_ret, go_exit, go_seq, go_block, go_reg, go_r0, go_r, go_d0, go_d, go_e0, go_e, box2, Option.isSome_some, Nat.le_refl, go_cond, go_o, go_g, aft_some, cnd_bool, grd_bool, grd_tup, brT_true, brT_false, brT_not, thr_exit, thr_c, thr_nil, stp, stepK, movK, mv1, ex, exv, exvs, upd_some, upd_none, ini, St.val, binK, binV, ofV, pickK, unK, unV, beqK, beq_true, beq_false, if_true, if_false, List.getElem?_cons_zero, List.getElem?_cons_succ, ↓reduceIte, Nat.reduceEqDiff, reduceCtorEq, loadK, adr, deref, Ad.fv, Ad.live, fadrK, List.length_cons, List.length_nil, List.drop_zero, List.drop_succ_cons, List.take_succ_cons, List.take_zero, Nat.reduceAdd, Nat.reduceLeDiff, Nat.zero_add, Nat.add_zero, aeqK, agEq, scEq, boxVK, newVK, exc, vc_agg, vc_int, vc_bool, vc_str, vc_ptr, vc_sl, vc_fn, boxOf, adInf, List.reverse_cons, List.reverse_nil, List.nil_append, List.cons_append, extK, Bool.and_true, Bool.true_and, Bool.not_true, Bool.not_false, resT, resVs, resV, true_and, and_true, storeK, spl_nil, spl_z, spl_1, spl_2, spl_3, spl_4, spl_5, spl_6, spl_7, spl_8, scal_int, scal_bool, scal_str, scal_nil, implies_true, Bool.and_self, Post_ret, Post_normal, PostS_ret, PostS_normal, retT_true, retT_false, flat_bool, flat_int, flat_str, List.take_length, decide_true, decide_false, Option.some.injEq, Value.bool.injEq, Value.int.injEq, Bool.false_and, Bool.and_false, not_false_eq_true, not_true_eq_false, toIntK, List.length_set, Nat.reduceMul, Bool.not_eq_true, Bool.not_eq_false, List.all_cons, List.all_nil, exps, fillL, buildK, strK, nilcK, fnK, callVT, List.size_toArray, List.append_nil, List.singleton_append, boxOK, newOK, scal_nil, List.isEmpty_nil, List.isEmpty_cons, mkVK, mkOK, mkCells, zeros_0, zeros_1, zeros_2, zeros_3, zeros_4, List.map_cons, List.map_nil, hto, hix]
    generalize hg : IntKind.u8.wrap _ = g1
    obtain ⟨b, hb1, hb2⟩ : ∃ b : Nat, g1 = (b : Int) ∧ b < 256 := hg ▸ u8_nat _
    subst hb1
    have hb := (sl_oneD (H := H3) (a := b)).b2s (fun n hn => by simp at hn; omega)
    rw [hb]
    rotate_left
    · rfl
    · rfl
    simp only [go_nil, go_blk, go_skip, go_ret, go_exit, go_seq, go_block, go_reg, go_r0, go_r, go_d0, go_d, go_e0, go_e, box2, Option.isSome_some, Nat.le_refl, go_cond, go_o, go_g, aft_some, cnd_bool, grd_bool, grd_tup, brT_true, brT_false, brT_not, thr_exit, thr_c, thr_nil, stp, stepK, movK, mv1, ex, exv, exvs, upd_some, upd_none, ini, St.val, binK, binV, ofV, pickK, unK, unV, beqK, beq_true, beq_false, if_true, if_false, List.getElem?_cons_zero, List.getElem?_cons_succ, ↓reduceIte, Nat.reduceEqDiff, reduceCtorEq, loadK, adr, deref, Ad.fv, Ad.live, fadrK, List.length_cons, List.length_nil, List.drop_zero, List.drop_succ_cons, List.take_succ_cons, List.take_zero, Nat.reduceAdd, Nat.reduceLeDiff, Nat.zero_add, Nat.add_zero, aeqK, agEq, scEq, boxVK, newVK, exc, vc_agg, vc_int, vc_bool, vc_str, vc_ptr, vc_sl, vc_fn, boxOf, adInf, List.reverse_cons, List.reverse_nil, List.nil_append, List.cons_append, extK, Bool.and_true, Bool.true_and, Bool.not_true, Bool.not_false, resT, resVs, resV, true_and, and_true, storeK, spl_nil, spl_z, spl_1, spl_2, spl_3, spl_4, spl_5, spl_6, spl_7, spl_8, scal_int, scal_bool, scal_str, scal_nil, implies_true, Bool.and_self, Post_ret, Post_normal, PostS_ret, PostS_normal, retT_true, retT_false, flat_bool, flat_int, flat_str, List.take_length, decide_true, decide_false, Option.some.injEq, Value.bool.injEq, Value.int.injEq, Bool.false_and, Bool.and_false, not_false_eq_true, not_true_eq_false, toIntK, List.length_set, Nat.reduceMul, Bool.not_eq_true, Bool.not_eq_false, List.all_cons, List.all_nil, exps, fillL, buildK, strK, nilcK, fnK, callVT, List.size_toArray, List.append_nil, List.singleton_append, boxOK, newOK, scal_nil, List.isEmpty_nil, List.isEmpty_cons, mkVK, mkOK, mkCells, zeros_0, zeros_1, zeros_2, zeros_3, zeros_4, List.map_cons, List.map_nil, hfrom1, wk, a2, a4]
    refine ⟨by rfl, ?_⟩
    have csB := csA.trans cs3
    have hcx : CX H (H3 ++ [[.int .u8 (b : Int)]]) c id := csB.cx.trans (CX.ofPre csB.1 (List.prefix_append _ _))
    exact ⟨_, rfl, by rw [ByteArray.size_append, ByteArray.size_append, zo]; omega, hcx.cut hidl⟩

end Go.Proofs.Ytpdkgbamakileaa.Ev

/- The types of the laws' parameters: bytes. -/
namespace Go.Proofs.Ytpdkgbamakileaa.Ev
set_option linter.all false
open Go
set_option maxRecDepth 100000
theorem bU : Bld Try.prog 5 1 (fun _ (n : Int) vs => vs = [.int .u8 n]) (fun n => (Lit.int .u8 n).wf = true) := Bld.int Try.underlying5 (by kernel_rfl)
theorem aBytes : ArgB Try.prog 47 (fun M (l : List Int) v => SlU M v l) (fun l => ∀ x ∈ l, (Lit.int .u8 x).wf = true) :=
  have h := ArgB.slice (t := 47) (e := 5) Try.underlying47 (by kernel_rfl) (bU.conv (R' := fun _ (n : Int) vs => En eU n vs) (fun n => n) (fun _ _ _ h => h) (fun _ h => h) (fun _ h => h))
  ⟨h.mono, fun a b J M r => by
    obtain ⟨J', M', u, z, a1, a2, a3, a4, a5⟩ := h.arg a b J M r
    exact ⟨J', M', u, z, a1, a2, a3, a4, a5.2⟩⟩
end Go.Proofs.Ytpdkgbamakileaa.Ev

/- Lists of lines and of texts: comparisons, marks. -/
namespace Go.Proofs.Ytpdkgbamakileaa.Ev
set_option linter.all false
open Go
set_option maxRecDepth 4000

/-- Rows as long as before. -/
def SL (H H' : Hp) : Prop := H'.length = H.length ∧ ∀ (j : Nat) (o : List Value), H[j]? = some o → ∃ o' : List Value, H'[j]? = some o' ∧ o'.length = o.length
theorem SL.refl (H : Hp) : SL H H := ⟨rfl, fun j o h => ⟨o, h, rfl⟩⟩
theorem SL.trans {H H' H'' : Hp} (h : SL H H') (k : SL H' H'') : SL H H'' := ⟨k.1.trans h.1, fun j o ho => by
  obtain ⟨o', h1, h2⟩ := h.2 j o ho
  obtain ⟨o'', k1, k2⟩ := k.2 j o' h1
  exact ⟨o'', k1, k2.trans h2⟩⟩
theorem SL.set {H : Hp} {id : Nat} {o o' : List Value} (ho : H[id]? = some o) (hl : o'.length = o.length) : SL H (H.set id o') := ⟨by simp, fun j p hp => by
  by_cases e : id = j
  · subst e
    rw [ho] at hp
    cases hp
    exact ⟨o', List.getElem?_set_self (List.getElem?_eq_some_iff.1 ho).1, hl⟩
  · exact ⟨p, by rw [List.getElem?_set_ne e]; exact hp, rfl⟩⟩
theorem Sl.sl {α : Type} {esz : Nat} {H H' : Hp} {v : Value} {l : List α} (h : Sl (fun _ _ => True) esz H v l) (hs : SL H H') : Sl (fun (_ : α) _ => True) esz H' v l := by
  rcases h with ⟨rfl, rfl⟩ | ⟨id, off, cap, o, rfl, ho, hc, hn, hrm, hr⟩
  · exact .inl ⟨rfl, rfl⟩
  · obtain ⟨o', h1, h2⟩ := hs.2 id o ho
    exact .inr ⟨id, off, cap, o', rfl, h1, by rw [h2]; exact hc, hn, hrm, fun _ _ _ => trivial⟩
end Go.Proofs.Ytpdkgbamakileaa.Ev

/- A sealed log: the reference's way to write it. -/
namespace Go.Proofs.Ytpdkgbamakileaa.Ev
set_option linter.all false
open Go
set_option maxRecDepth 4000

noncomputable def rowAt (k : Int) (l : List Ln) (j : Nat) : ByteArray := match l[j]? with
  | some z => sealLine k ((j + 1 : Nat) : Int) z
  | none => ⟨#[]⟩
def RowOk (k : Int) (l : List Ln) (j : Nat) : Prop := rowAt k l j ≠ ⟨#[]⟩ ∧ ∀ z z' : Ln, 0 < j → l[j - 1]? = some z → l[j]? = some z' → z.1 ≤ z'.1
noncomputable def rowsN (k : Int) (l : List Ln) (n : Nat) : List ByteArray := (List.range n).map (rowAt k l)
def AudOk (k : Int) (l : List Ln) : Prop := l.length ≤ 20 ∧ (∀ j, j < l.length → RowOk k l j) ∧ sealHead k l.length ≠ ⟨#[]⟩
open Classical in
noncomputable def audB (k : Int) (l : List Ln) : Bool := decide (AudOk k l)
noncomputable def audL (k : Int) (l : List Ln) : List ByteArray := if audB k l = true then rowsN k l l.length else []
noncomputable def audH (k : Int) (l : List Ln) : ByteArray := if audB k l = true then sealHead k l.length else ⟨#[]⟩
theorem audB_t {k : Int} {l : List Ln} : audB k l = true ↔ AudOk k l := by
  classical
  unfold audB; simp
theorem aud_no {k : Int} {l : List Ln} (h : ¬ AudOk k l) : audB k l = false ∧ audL k l = [] ∧ audH k l = ⟨#[]⟩ := by
  have hb : audB k l = false := by
    cases h2 : audB k l with
    | false => rfl
    | true => exact absurd (audB_t.1 h2) h
  unfold audL audH
  rw [hb]
  exact ⟨rfl, rfl, rfl⟩
def AudR (H : Hp) (k : Int) (l : List Ln) (r : Value) (H' : Hp) : Prop := ∃ w, r = .tuple #[w, .string (audH k l), .bool (audB k l)] ∧ H <+: H' ∧ SlS H' w (audL k l) ∧ OwnS H.length w
theorem AudR.no {H H' : Hp} {k : Int} {l : List Ln} {w : Value} (h : ¬ AudOk k l) (hp : H <+: H') (hs : SlS H' w []) (ho : OwnS H.length w) : AudR H k l (.tuple #[w, .string ⟨#[]⟩, .bool false]) H' := by
  obtain ⟨h1, h2, h3⟩ := aud_no h
  exact ⟨w, by rw [h1, h3], hp, by rw [h2]; exact hs, ho⟩

theorem Sl.oneS {m : Md} {N : Nat} {H : Hp} {v : Value} {l : List ByteArray} (a : ByteArray) (h : SlS H v l) (ho : OwnS N v) (hN : N ≤ H.length) (hw : ∀ id, N ≤ id → m.wr id = true) (hb : l.length < 1048576) :
    ∃ v' H', (∀ (s : St) (x y : X), s.H = H → exv s.ρ x = some v → ex s.ρ y = .vs 1 [.string a] → appK m s 1 16 x y = some (.val v', { s with H := H' })) ∧ SlS H' v' (l ++ [a]) ∧ OwnS N v' ∧
      (∀ j, j < H.length → j ∉ idsOf v → H'[j]? = H[j]?) ∧ H.length ≤ H'.length ∧ (∀ j ∈ idsOf v', j ∈ idsOf v ∨ H.length ≤ j) ∧ ∀ H0 : Hp, H0.length ≤ N → H0 <+: H → H0 <+: H' := by
  obtain ⟨v', H', h1, h2⟩ := h.app (m := m) (n := 1) (bytes := 16) (l2 := [a]) (cs := [.string a]) ho hN hw (fun _ => rfl) (by simp) rfl (fun i b hi => by
    cases i with
    | zero => simp at hi; subst hi; rfl
    | succ i => simp at hi) (by unfold Ev.room; simp; omega) (by unfold Ev.room; simp; omega)
  exact ⟨v', H', fun s x y hH hx hy => h1 s x y hH hx (by rw [hy]; rfl), h2⟩
theorem own_newS {H : Hp} : SlS (H ++ [[]]) (.slice (some ⟨H.length, 0, some 1⟩) 0 (0 * 1)) [] := .inr ⟨H.length, 0, 0, [], rfl, by simp, by simp, by simp, by simp, fun i a hi => by simp at hi⟩

end Go.Proofs.Ytpdkgbamakileaa.Ev

/- A sealed log: the program's way to write it; the law AuditAll. -/
namespace Go.Proofs.Ytpdkgbamakileaa.Ev
set_option linter.all false
open Go
set_option maxRecDepth 4000

theorem own_ge {N : Nat} {v : Value} (h : OwnS N v) : ∀ j ∈ idsOf v, N ≤ j := fun j hj => by
  rcases h with rfl | ⟨id, e, ln, cap, rfl, hid⟩
  · simp [idsOf] at hj
  · simp [idsOf] at hj; omega
theorem own_notin {x N : Nat} {v : Value} (h : OwnS N v) (hx : x < N) : x ∉ idsOf v := fun hm => by have := own_ge h x hm; omega
theorem Sl.keep {α : Type} {R : α → List Value → Prop} {esz : Nat} {H H' : Hp} {v w : Value} {l : List α} (h : Sl R esz H v l) (hd : ∀ j ∈ idsOf v, j ∉ idsOf w) (hf : ∀ j, j ∉ idsOf w → H'[j]? = H[j]?) : Sl R esz H' v l :=
  h.frame (fun _ _ _ h => h) fun id off e len cap hv => hf id (hd id (by subst hv; simp [idsOf]))

end Go.Proofs.Ytpdkgbamakileaa.Ev

/- Reading sealed lines: plain. -/
namespace Go.Proofs.Ytpdkgbamakileaa.Ev
set_option linter.all false
open Go
set_option maxRecDepth 4000

/-- The places between a list's parts, and the parts. -/
noncomputable def posN (s : ByteArray) (e0 j : Nat) : Nat := (itr (tmE s 8) j e0).getD 0
noncomputable def segL (s : ByteArray) (e0 n : Nat) : List ByteArray := (List.range n).map fun j => s.extract (posN s e0 j) (posN s e0 (j + 1))
theorem segL_len (s : ByteArray) (e0 n : Nat) : (segL s e0 n).length = n := by simp [segL]
theorem segL_succ (s : ByteArray) (e0 n : Nat) : segL s e0 (n + 1) = segL s e0 n ++ [s.extract (posN s e0 n) (posN s e0 (n + 1))] := by simp [segL, List.range_succ]

open Classical in
noncomputable def partsB (s : ByteArray) : Option (List ByteArray) := if tOk s = true ∧ s[0]? = some 108 then some (segL s (1 + (rdV (rest s 1)).2) (rdV (rest s 1)).1) else none
open Classical in
noncomputable def openB (s : ByteArray) (k : Int) : Option ByteArray := if tOk s = true ∧ s[0]? = some 115 ∧ ((rdV (rest s 1)).1 : Int) = k then some (rest s (1 + (rdV (rest s 1)).2)) else none
open Classical in
noncomputable def atomR (s : ByteArray) : Option ByteArray := if tOk s = true ∧ s[0]? = some 97 then some (rest s (1 + (rdV (rest s 1)).2)) else none
noncomputable def numR (s : ByteArray) : Option Int := match atomR s with
  | some d => if (rdV d).2 = 0 ∨ (rdV d).2 ≠ d.size then none else some ((rdV d).1 : Int)
  | none => none

/-- A term's head has its number. -/
theorem tOk_head {s : ByteArray} (h : tOk s = true) : ¬ (rdV (rest s 1)).2 = 0 ∧ ∃ c, s[0]? = some c := by
  have h8 := (tOk_t.1 h).2.2
  rw [show (8 : Nat) = 7 + 1 from rfl, tmE, tmStep] at h8
  cases hc : s[0]? with
  | none => rw [hc] at h8; cases h8
  | some c =>
    rw [hc] at h8
    simp only at h8
    refine ⟨fun e => ?_, c, rfl⟩
    rw [show (0 : Nat) + 1 = 1 from rfl, if_pos e] at h8
    cases h8
theorem tOk_list {s : ByteArray} (h : tOk s = true) (hc : s[0]? = some 108) : (rdV (rest s 1)).1 ≤ 12 ∧ itr (tmE s 7) (rdV (rest s 1)).1 (1 + (rdV (rest s 1)).2) = some s.size := by
  have h8 := (tOk_t.1 h).2.2
  have hk := (tOk_head h).1
  rw [show (8 : Nat) = 7 + 1 from rfl, tmE, tmStep, hc] at h8
  simp only [Nat.zero_add] at h8
  rw [if_neg hk, if_neg (by decide), if_neg (by decide), if_pos trivial] at h8
  split at h8
  · rename_i h2; exact ⟨h2, h8⟩
  · cases h8
/-- .. so all its parts stand. -/
theorem pos_some {s : ByteArray} (h : tOk s = true) (hc : s[0]? = some 108) : ∀ j, j ≤ (rdV (rest s 1)).1 → ∃ e, itr (tmE s 8) j (1 + (rdV (rest s 1)).2) = some e ∧ e ≤ s.size := by
  intro j hj
  obtain ⟨h12, h7⟩ := tOk_list h hc
  cases hit : itr (tmE s 7) j (1 + (rdV (rest s 1)).2) with
  | none => rw [itr_none hj hit] at h7; cases h7
  | some e =>
    have := itr_fmono (g := tmE s 8) (fun a e h => tm_mono h) hit
    have hr := rdV_le (rest s 1)
    rw [rest_size] at hr
    have h1 := (tOk_t.1 h).1
    exact ⟨e, this, (itr_le (s := s) (f := tmE s 8) (fun a e h => tmE_le h) (by omega) this).2⟩
theorem pos_next {s : ByteArray} {e0 j e e' : Nat} (h : itr (tmE s 8) j e0 = some e) (h2 : itr (tmE s 8) (j + 1) e0 = some e') : tmE s 8 e = some e' := by
  rw [itr_succ, h] at h2
  exact h2

theorem extract_mid {x t y : ByteArray} : (x ++ t ++ y).extract x.size (x.size + t.size) = t := by
  refine ByteArray.ext ?_
  rw [ByteArray.data_extract, ByteArray.data_append, ByteArray.data_append]
  have e1 : x.size = x.data.size := rfl
  have e2 : t.size = t.data.size := rfl
  rw [e1, e2, Array.append_assoc, Array.extract_append, Array.extract_append]
  have z1 : x.data.extract x.data.size (x.data.size + t.data.size) = #[] := Array.extract_empty_of_size_le_start (Nat.le_refl _)
  have z2 : x.data.size - x.data.size = 0 := Nat.sub_self _
  have z3 : x.data.size + t.data.size - x.data.size = t.data.size := by omega
  rw [z1, z2, z3]
  simp
theorem ch_get (c : UInt8) (y : ByteArray) : ((⟨#[c]⟩ : ByteArray) ++ y)[0]? = some c := by
  rw [cat_left (by show 0 < 1; omega)]
  rfl

end Go.Proofs.Ytpdkgbamakileaa.Ev

/- Reading seals, atoms and numbers: both ways. -/
namespace Go.Proofs.Ytpdkgbamakileaa.Ev
set_option linter.all false
open Go
set_option maxRecDepth 4000

theorem slc_mid {s : St} {x y z : X} {b : ByteArray} {i k : Nat} (hi : i ≤ k) (hk : k ≤ b.size) (hx : exv s.ρ x = some (.string b)) (hy : exv s.ρ y = some (.int .i64 i)) (hz : exv s.ρ z = some (.int .i64 k)) : slcSK s x (some y) (some z) = some (.val (.string (b.extract i k)), s) := by
  unfold slcSK
  rw [hx]
  simp only [bnd, hy, hz]
  rw [if_pos ⟨by omega, by omega, by omega⟩]
  rfl

open Classical in
/-- A term of a kind. -/
noncomputable def isB (s : ByteArray) (c : UInt8) : Bool := tOk s && decide (s[0]? = some c)
theorem isB_t {s : ByteArray} {c : UInt8} : isB s c = true ↔ tOk s = true ∧ s[0]? = some c := by
  unfold isB; simp
def opV : Option ByteArray → Value
  | some t => .tuple #[.string t, .bool true]
  | none => .tuple #[.string ⟨#[]⟩, .bool false]
theorem opV_flat (o : Option ByteArray) : flatScal (opV o) = true := by cases o <;> rfl
theorem openB_no {s : ByteArray} {k : Int} (h : isB s 115 = false) : openB s k = none := by
  unfold openB
  rw [if_neg]
  rintro ⟨h1, h2, _⟩
  rw [isB_t.2 ⟨h1, h2⟩] at h
  cases h
theorem openB_ne {s : ByteArray} {k : Int} (h : ¬ ((rdV (rest s 1)).1 : Int) = k) : openB s k = none := by
  unfold openB
  rw [if_neg fun h2 => h h2.2.2]
theorem openB_yes {s : ByteArray} {k : Int} (h : isB s 115 = true) (h2 : ((rdV (rest s 1)).1 : Int) = k) : openB s k = some (rest s (1 + (rdV (rest s 1)).2)) := by
  unfold openB
  rw [if_pos ⟨(isB_t.1 h).1, (isB_t.1 h).2, h2⟩]
theorem partsB_no {s : ByteArray} (h : isB s 108 = false) : partsB s = none := by
  unfold partsB
  rw [if_neg]
  rintro ⟨h1, h2⟩
  rw [isB_t.2 ⟨h1, h2⟩] at h
  cases h
theorem partsB_yes {s : ByteArray} (h : isB s 108 = true) : partsB s = some (segL s (1 + (rdV (rest s 1)).2) (rdV (rest s 1)).1) := by
  unfold partsB
  rw [if_pos (isB_t.1 h)]

theorem chd (q : Nat) (hq : q < 256) (c : UInt8) : decide (((c.toNat : Nat) : Int) = (q : Int)) = decide (c = UInt8.ofNat q) := by
  rw [Bool.eq_iff_iff]; simp only [decide_eq_true_eq]; exact ch_eq hq
theorem chd108 (c : UInt8) : decide (((c.toNat : Nat) : Int) = 108) = decide (c = 108) := chd 108 (by decide) c
theorem chd115 (c : UInt8) : decide (((c.toNat : Nat) : Int) = 115) = decide (c = 115) := chd 115 (by decide) c

theorem f118 {H : Hp} {s : ByteArray} {q : Int} {cq : UInt8} (hs : s.size ≤ 4611686018427387904) (hq : ∀ c : UInt8, decide (((c.toNat : Nat) : Int) = q) = decide (c = cq)) : Scal EE 118 [.string s, .int .u8 q] H (.bool (isB s cq)) := by
  refine scal_ok rfl rfl k118 (by simp [c118]) rfl fun m hw => ?_
  have a96 := fun {m draw t d ts Q} => callT_at (m := m) (draw := draw) (s := t) (d := d) (ts := ts) (Q := Q) (f96 (H := H) hs)
  unfold isB
  cases h : tOk s with
  | false => simp only [go_sem, ↓reduceIte, Nat.reduceEqDiff, reduceCtorEq, Nat.reduceAdd, Nat.reduceLeDiff, Nat.reduceMul, c118, a96, hw, h]
  | true =>
    obtain ⟨c, hc⟩ := (tOk_head h).2
    have hix : ∀ {t : St} {x : X}, exv t.ρ x = some (.string s) → idxK t x (.c (.int .i64 0)) = some (.val (.int .u8 c.toNat), t) := fun {t x} hx => idx_at (i := 0) hc hx rfl
    have e : decide (s[0]? = some cq) = decide (c = cq) := by rw [hc]; simp
    simp only [go_sem, ↓reduceIte, Nat.reduceEqDiff, reduceCtorEq, Nat.reduceAdd, Nat.reduceLeDiff, Nat.reduceMul, c118, a96, hw, h, hix, hq, e]

/-- What the first number of a term needs. -/
theorem head_le {s : ByteArray} (h : tOk s = true) : 1 ≤ s.size ∧ s.size ≤ 900 ∧ 1 + (rdV (rest s 1)).2 ≤ s.size ∧ (rdV (rest s 1)).1 ≤ 562949953421311 := by
  have h1 := tOk_t.1 h
  have hr := rdV_le (rest s 1)
  rw [rest_size] at hr
  have := h1.1
  have := h1.2.1
  omega
theorem va_yes {s : ByteArray} (h : tOk s = true) : vaN s 1 = ((rdV (rest s 1)).1 : Int) := by
  unfold vaN
  rw [if_neg (tOk_head h).1]

noncomputable def sealedV (s : ByteArray) : Value := if isB s 115 = true then .tuple #[.int .i64 ((rdV (rest s 1)).1 : Nat), .string (rest s (1 + (rdV (rest s 1)).2)), .bool true] else .tuple #[.int .i64 0, .string ⟨#[]⟩, .bool false]
theorem f83 {H : Hp} {s : ByteArray} (hs : s.size ≤ 4611686018427387904) : Scal EE 83 [.string s] H (sealedV s) := by
  refine scal_ok rfl rfl k83 (by simp [c83]) (by unfold sealedV; split <;> rfl) fun m hw => ?_
  have a118 := fun {m draw t d ts Q} => callT_at (m := m) (draw := draw) (s := t) (d := d) (ts := ts) (Q := Q) (f118 (H := H) hs chd115)
  unfold sealedV
  cases h : isB s 115 with
  | false => simp only [go_sem, ↓reduceIte, Nat.reduceEqDiff, reduceCtorEq, Nat.reduceAdd, Nat.reduceLeDiff, Nat.reduceMul, c83, a118, hw, h]
  | true =>
    have ht := (isB_t.1 h).1
    have hz := head_le ht
    have a119 := fun {m draw t d ts Q} => callT_at (m := m) (draw := draw) (s := t) (d := d) (ts := ts) (Q := Q) (f119 (H := H) (a := 1) hs (by omega))
    have a119 : ∀ {m : Md} {draw : Bool} {t : St} {d' : Option Nat} {ts : List Tk} {Q : Ex → St → Prop}, t.H = H → Wr m H → callT EE m draw 119 (some [.string s, .int .i64 1]) t d' ts Q = go EE m ts { t with ρ := upd t.ρ d' (.val (.tuple #[.int .i64 ((rdV (rest s 1)).1 : Nat), .int .i64 ((1 + (rdV (rest s 1)).2 : Nat) : Int)])) } Q := fun {m draw t d' ts Q} h1 h2 => by rw [← va_yes ht]; exact a119 h1 h2
    have hsl := fun {t : St} {x y : X} => slc_rest (s := t) (x := x) (y := y) (b := s) (k := 1 + (rdV (rest s 1)).2) hz.2.2.1
    simp only [go_sem, ↓reduceIte, Nat.reduceEqDiff, reduceCtorEq, Nat.reduceAdd, Nat.reduceLeDiff, Nat.reduceMul, c83, a118, hw, h, a119, List.getElem?_toArray]
    refine go_draw ?_
    simp only [go_sem, ↓reduceIte, Nat.reduceEqDiff, reduceCtorEq, Nat.reduceAdd, Nat.reduceLeDiff, Nat.reduceMul, hsl]
    rfl

theorem f100 {H : Hp} {s : ByteArray} {k : Int} (hs : s.size ≤ 4611686018427387904) : Scal EE 100 [.string s, .int .i64 k] H (opV (openB s k)) := by
  refine scal_ok rfl rfl k100 (by simp [c100]) (opV_flat _) fun m hw => ?_
  have a88 := fun {m draw t d ts Q} => callT_at (m := m) (draw := draw) (s := t) (d := d) (ts := ts) (Q := Q) (f88 (H := H) hs)
  cases ht : tOk s with
  | false =>
    rw [openB_no (by unfold isB; rw [ht]; rfl)]
    simp only [go_sem, ↓reduceIte, Nat.reduceEqDiff, reduceCtorEq, Nat.reduceAdd, Nat.reduceLeDiff, Nat.reduceMul, c100, a88, hw, ht, opV]
  | true =>
    obtain ⟨c, hc⟩ := (tOk_head ht).2
    have hz := head_le ht
    have hix : ∀ {t : St} {x : X}, exv t.ρ x = some (.string s) → idxK t x (.c (.int .i64 0)) = some (.val (.int .u8 c.toNat), t) := fun {t x} hx => idx_at (i := 0) hc hx rfl
    have hrs := rest_size s 1
    have a127 := fun {m draw t d ts Q} => callT_at (m := m) (draw := draw) (s := t) (d := d) (ts := ts) (Q := Q) (f127 (H := H) (s := rest s 1) (by omega))
    have hsl1 : ∀ {t : St} {x : X}, exv t.ρ x = some (.string s) → slcSK t x (some (.c (.int .i64 1))) none = some (.val (.string (rest s 1)), t) := fun {t x} hx => slc_rest (k := 1) (by omega) hx rfl
    have hsl2 : ∀ {t : St} {x y : X}, exv t.ρ x = some (.string s) → exv t.ρ y = some (.int .i64 (1 + ((rdV (rest s 1)).2 : Int))) → slcSK t x (some y) none = some (.val (.string (rest s (1 + (rdV (rest s 1)).2))), t) := fun {t x y} hx hy => slc_rest (k := 1 + (rdV (rest s 1)).2) hz.2.2.1 hx (by rw [hy]; rfl)
    have w1 : IntKind.i64.wrap (1 + ((rdV (rest s 1)).2 : Int)) = 1 + ((rdV (rest s 1)).2 : Int) := wrap64 _ (by omega) (by omega)
    simp only [go_sem, ↓reduceIte, Nat.reduceEqDiff, reduceCtorEq, Nat.reduceAdd, Nat.reduceLeDiff, Nat.reduceMul, c100, a88, hw, ht, hix, chd115]
    refine brT.intro (fun q => ?_) (fun q => ?_) <;> simp only [go_sem, ↓reduceIte, Nat.reduceEqDiff, reduceCtorEq, Nat.reduceAdd, Nat.reduceLeDiff, Nat.reduceMul, q, hsl1, a127, hw, List.getElem?_toArray]
    · have q : c = 115 := by simpa using q
      have hB : isB s 115 = true := isB_t.2 ⟨ht, by rw [hc, q]⟩
      refine brT.intro (fun q2 => ?_) (fun q2 => ?_) <;> simp only [go_sem, ↓reduceIte, Nat.reduceEqDiff, reduceCtorEq, Nat.reduceAdd, Nat.reduceLeDiff, Nat.reduceMul, q2, w1, hsl2]
      · have q2 : ((rdV (rest s 1)).1 : Int) = k := by simpa using q2
        rw [openB_yes hB q2]
        rfl
      · have q2 : ¬ ((rdV (rest s 1)).1 : Int) = k := by simpa using q2
        rw [openB_ne q2]
        rfl
    · have q : ¬ c = 115 := by simpa using q
      rw [openB_no (by unfold isB; rw [hc]; simp [q])]
      rfl

theorem opV_at (o : Option ByteArray) : opV o = .tuple #[.string (o.getD ⟨#[]⟩), .bool o.isSome] := by cases o <;> rfl
end Go.Proofs.Ytpdkgbamakileaa.Ev

/- The parts of a list: both ways. -/
namespace Go.Proofs.Ytpdkgbamakileaa.Ev
set_option linter.all false
open Go
set_option maxRecDepth 4000

theorem pos_step {s : ByteArray} (h : isB s 108 = true) {i : Nat} (hi : i < (rdV (rest s 1)).1) :
    tmE s 8 (posN s (1 + (rdV (rest s 1)).2) i) = some (posN s (1 + (rdV (rest s 1)).2) (i + 1)) ∧ posN s (1 + (rdV (rest s 1)).2) i ≤ posN s (1 + (rdV (rest s 1)).2) (i + 1) ∧ posN s (1 + (rdV (rest s 1)).2) (i + 1) ≤ s.size := by
  obtain ⟨h1, h2⟩ := isB_t.1 h
  obtain ⟨e, he, hle⟩ := pos_some h1 h2 i (by omega)
  obtain ⟨e', he', hle'⟩ := pos_some h1 h2 (i + 1) (by omega)
  have hn := pos_next he he'
  have e1 : posN s (1 + (rdV (rest s 1)).2) i = e := by unfold posN; rw [he]; rfl
  have e2 : posN s (1 + (rdV (rest s 1)).2) (i + 1) = e' := by unfold posN; rw [he']; rfl
  rw [e1, e2]
  have := (tmE_le hn).1
  exact ⟨hn, by omega, hle'⟩
theorem pos_zero (s : ByteArray) (e0 : Nat) : posN s e0 0 = e0 := rfl
theorem parts_le {s : ByteArray} (h : isB s 108 = true) : (rdV (rest s 1)).1 ≤ 12 := (tOk_list (isB_t.1 h).1 (isB_t.1 h).2).1

def PartR (H : Hp) (s : ByteArray) (r : Value) (H' : Hp) : Prop := ∃ w, r = .tuple #[w, .bool (partsB s).isSome] ∧ FreshS eS 1 H w H' ((partsB s).getD [])

theorem f81 {m : Md} {H : Hp} {s : ByteArray} (hs : s.size ≤ 4611686018427387904) (hw : Wr m H) : Fun EE m 81 [.string s] H fun r H' => PartR H s r H' := by
  refine fun_f rfl rfl k81 (by simp [c81]) ?_
  have a118 := fun {m draw t d ts Q} => callT_at (m := m) (draw := draw) (s := t) (d := d) (ts := ts) (Q := Q) (f118 (H := H) hs chd108)
  cases h : isB s 108 with
  | false =>
    have e := partsB_no h
    simp only [go_sem, ↓reduceIte, Nat.reduceEqDiff, reduceCtorEq, Nat.reduceAdd, Nat.reduceLeDiff, Nat.reduceMul, c81, a118, hw, h]
    exact ⟨_, by rw [e]; rfl, List.prefix_refl _, by rw [e]; exact .inl ⟨rfl, rfl⟩, .inl rfl⟩
  | true =>
    have e := partsB_yes h
    have ht := (isB_t.1 h).1
    have hz := head_le ht
    have h12 := parts_le h
    have hps := fun {i : Nat} (hi : i < (rdV (rest s 1)).1) => pos_step h hi
    have a119 := fun {m draw t d ts Q} => callT_at (m := m) (draw := draw) (s := t) (d := d) (ts := ts) (Q := Q) (f119 (H := H) (a := 1) hs (by omega))
    have a119 : ∀ {m : Md} {draw : Bool} {t : St} {d' : Option Nat} {ts : List Tk} {Q : Ex → St → Prop}, t.H = H → Wr m H → callT EE m draw 119 (some [.string s, .int .i64 1]) t d' ts Q = go EE m ts { t with ρ := upd t.ρ d' (.val (.tuple #[.int .i64 ((rdV (rest s 1)).1 : Nat), .int .i64 ((1 + (rdV (rest s 1)).2 : Nat) : Int)])) } Q := fun {m draw t d' ts Q} h1 h2 => by rw [← va_yes ht]; exact a119 h1 h2
    have p0 : H <+: H ++ [[]] := List.prefix_append _ _
    have s0 : SlS (H ++ [[]]) (.slice (some ⟨H.length, 0, some 1⟩) 0 (0 * 1)) [] := own_newS
    have o0 : OwnS H.length (.slice (some ⟨H.length, 0, some 1⟩) 0 (0 * 1)) := .inr ⟨_, _, _, _, rfl, Nat.le_refl _⟩
    generalize hwv : Value.slice (some ⟨H.length, 0, some 1⟩) 0 (0 * 1) = wv0 at s0 o0
    generalize hn : (rdV (rest s 1)).1 = n at *
    generalize he0 : 1 + (rdV (rest s 1)).2 = e0 at *
    unfold PartR
    rw [e]
    simp only [go_sem, ↓reduceIte, Nat.reduceEqDiff, reduceCtorEq, Nat.reduceAdd, Nat.reduceLeDiff, Nat.reduceMul, c81, a118, hw, h, a119, List.getElem?_toArray, fillL, hwv]
    refine go_for n (fun i t => H <+: t.H ∧ t.ρ 0 = .val (.string s) ∧ t.ρ 17 = .val (.int .i64 n) ∧ t.ρ 18 = .val (.int .i64 i) ∧ t.ρ 5 = .val (.int .i64 (posN s e0 i)) ∧ ∃ wv, t.ρ 6 = .val wv ∧ SlS t.H wv (segL s e0 i) ∧ OwnS H.length wv)
      (fun t => H <+: t.H ∧ ∃ wv, t.ρ 6 = .val wv ∧ SlS t.H wv (segL s e0 n) ∧ OwnS H.length wv) ?_ ?_ ?_
    · exact ⟨p0, by simp [upd, ini], by simp [upd], by simp [upd], by simp [upd, pos_zero], wv0, by simp [upd], s0, o0⟩
    · rintro i t hi ⟨kH, k0, k17, k18, k5, wv, k6, ks, ko⟩
      simp only [go_sem, ↓reduceIte, Nat.reduceEqDiff, reduceCtorEq, Nat.reduceAdd, Nat.reduceLeDiff, Nat.reduceMul, k0, k17, k18]
      refine brT.intro (fun q => ?_) (fun q => ?_) <;> simp only [go_sem, ↓reduceIte, Nat.reduceEqDiff, reduceCtorEq, Nat.reduceAdd, Nat.reduceLeDiff, Nat.reduceMul, k0, k17, k18, k5, k6]
      · have hil : i < n := by have := of_decide_eq_true q; omega
        obtain ⟨t1, t2, t3⟩ := hps hil
        have kw := hw.pre kH
        have a120 := fun {m draw t' d' ts Q} => callT_at (m := m) (draw := draw) (s := t') (d := d') (ts := ts) (Q := Q) (f120 hs 8 (Nat.le_refl _) (H := t.H) (a := posN s e0 i) (by omega))
        have a120 : ∀ {m : Md} {draw : Bool} {t' : St} {d' : Option Nat} {ts : List Tk} {Q : Ex → St → Prop}, t'.H = t.H → Wr m t.H → callT EE m draw 120 (some [.string s, .int .i64 (posN s e0 i), .int .i64 8]) t' d' ts Q = go EE m ts { t' with ρ := upd t'.ρ d' (.val (.int .i64 (posN s e0 (i + 1) : Nat))) } Q := fun {m draw t' d' ts Q} h1 h2 => by rw [t1] at a120; exact a120 h1 h2
        have hsl := fun {t' : St} {x y z : X} => slc_mid (s := t') (x := x) (y := y) (z := z) t2 t3
        obtain ⟨v2, H2, d1, d2, d3, d4, d5, d6, d7⟩ := ks.oneS (m := m) (s.extract (posN s e0 i) (posN s e0 (i + 1))) ko kH.length_le hw (by rw [segL_len]; omega)
        have hp2 := d7 H (Nat.le_refl _) kH
        simp only [go_sem, ↓reduceIte, Nat.reduceEqDiff, reduceCtorEq, Nat.reduceAdd, Nat.reduceLeDiff, Nat.reduceMul, k0, k17, k18, k5, k6, a120, kw, hsl]
        rw [d1]
        rotate_left
        · rfl
        · rfl
        · rfl
        simp only [go_sem, ↓reduceIte, Nat.reduceEqDiff, reduceCtorEq, Nat.reduceAdd, Nat.reduceLeDiff, Nat.reduceMul, k0, k17, k18, k5, k6, wrap64 ((i : Int) + 1) (by omega) (by omega)]
        exact ⟨hil, hp2, by simp, v2, rfl, by rw [segL_succ]; exact d2, d3⟩
      · have : i = n := by have := of_decide_eq_false q; omega
        subst this
        exact ⟨kH, wv, rfl, ks, ko⟩
    · rintro t ⟨kH, wv, k6, ks, ko⟩
      simp only [go_sem, ↓reduceIte, Nat.reduceEqDiff, reduceCtorEq, Nat.reduceAdd, Nat.reduceLeDiff, Nat.reduceMul, k6]
      exact ⟨wv, rfl, kH, ks, ko⟩

theorem f93 {m : Md} {H : Hp} {s : ByteArray} (hs : s.size ≤ 4611686018427387904) (hw : Wr m H) : Fun EE m 93 [.string s] H fun r H' => PartR H s r H' := by
  refine fun_f rfl rfl k93 (by simp [c93]) ?_
  have p0 : H <+: H ++ [[]] := List.prefix_append _ _
  have w0 := hw.pre p0
  have a88 := fun {m draw t d ts Q} => callT_at (m := m) (draw := draw) (s := t) (d := d) (ts := ts) (Q := Q) (f88 (H := H ++ [[]]) hs)
  have s0 : SlS (H ++ [[]]) (.slice (some ⟨H.length, 0, some 1⟩) 0 (0 * 1)) [] := own_newS
  have o0 : OwnS H.length (.slice (some ⟨H.length, 0, some 1⟩) 0 (0 * 1)) := .inr ⟨_, _, _, _, rfl, Nat.le_refl _⟩
  generalize hwv : Value.slice (some ⟨H.length, 0, some 1⟩) 0 (0 * 1) = wv0 at s0 o0
  have no : partsB s = none → PartR H s (.tuple #[wv0, .bool false]) (H ++ [[]]) := fun e => ⟨_, by rw [e]; rfl, p0, by rw [e]; exact s0, o0⟩
  cases ht : tOk s with
  | false =>
    simp only [go_sem, ↓reduceIte, Nat.reduceEqDiff, reduceCtorEq, Nat.reduceAdd, Nat.reduceLeDiff, Nat.reduceMul, c93, fillL, hwv, a88, w0, ht]
    exact no (partsB_no (by unfold isB; rw [ht]; rfl))
  | true =>
    obtain ⟨c, hc⟩ := (tOk_head ht).2
    have hz := head_le ht
    have hix : ∀ {t : St} {x : X}, exv t.ρ x = some (.string s) → idxK t x (.c (.int .i64 0)) = some (.val (.int .u8 c.toNat), t) := fun {t x} hx => idx_at (i := 0) hc hx rfl
    have hrs := rest_size s 1
    have a127 := fun {m draw t d ts Q} => callT_at (m := m) (draw := draw) (s := t) (d := d) (ts := ts) (Q := Q) (f127 (H := H ++ [[]]) (s := rest s 1) (by omega))
    have hsl1 : ∀ {t : St} {x : X}, exv t.ρ x = some (.string s) → slcSK t x (some (.c (.int .i64 1))) none = some (.val (.string (rest s 1)), t) := fun {t x} hx => slc_rest (k := 1) (by omega) hx rfl
    have w1 : IntKind.i64.wrap (1 + ((rdV (rest s 1)).2 : Int)) = ((1 + (rdV (rest s 1)).2 : Nat) : Int) := by rw [wrap64 _ (by omega) (by omega)]; omega
    simp only [go_sem, ↓reduceIte, Nat.reduceEqDiff, reduceCtorEq, Nat.reduceAdd, Nat.reduceLeDiff, Nat.reduceMul, c93, fillL, hwv, a88, w0, ht, hix, chd108]
    refine brT.intro (fun q => ?_) (fun q => ?_) <;> simp only [go_sem, ↓reduceIte, Nat.reduceEqDiff, reduceCtorEq, Nat.reduceAdd, Nat.reduceLeDiff, Nat.reduceMul, q, hsl1, a127, w0, List.getElem?_toArray, w1]
    rotate_left
    · have q : ¬ c = 108 := by simpa using q
      exact no (partsB_no (by unfold isB; rw [hc]; simp [q]))
    have q : c = 108 := by simpa using q
    have h : isB s 108 = true := isB_t.2 ⟨ht, by rw [hc, q]⟩
    have e := partsB_yes h
    have h12 := parts_le h
    have hps := fun {i : Nat} (hi : i < (rdV (rest s 1)).1) => pos_step h hi
    generalize hn : (rdV (rest s 1)).1 = n at *
    generalize he0 : 1 + (rdV (rest s 1)).2 = e0 at *
    unfold PartR
    rw [e]
    refine go_for n (fun i t => H <+: t.H ∧ t.ρ 0 = .val (.string s) ∧ t.ρ 5 = .val (.int .i64 n) ∧ t.ρ 8 = .val (.int .i64 i) ∧ t.ρ 7 = .val (.int .i64 (posN s e0 i)) ∧ ∃ wv, t.ρ 4 = .val wv ∧ SlS t.H wv (segL s e0 i) ∧ OwnS H.length wv)
      (fun t => H <+: t.H ∧ ∃ wv, t.ρ 4 = .val wv ∧ SlS t.H wv (segL s e0 n) ∧ OwnS H.length wv) ?_ ?_ ?_
    · exact ⟨p0, by simp [upd, ini], by simp [upd], by simp [upd], by simp [upd, pos_zero], wv0, by simp [upd], s0, o0⟩
    · rintro i t hi ⟨kH, k0, k5, k8, k7, wv, k4, ks, ko⟩
      simp only [go_sem, ↓reduceIte, Nat.reduceEqDiff, reduceCtorEq, Nat.reduceAdd, Nat.reduceLeDiff, Nat.reduceMul, k0, k5, k8]
      refine brT.intro (fun q => ?_) (fun q => ?_) <;> simp only [go_sem, ↓reduceIte, Nat.reduceEqDiff, reduceCtorEq, Nat.reduceAdd, Nat.reduceLeDiff, Nat.reduceMul, k0, k4, k5, k7, k8]
      · have hil : i < n := by have := of_decide_eq_true q; omega
        obtain ⟨t1, t2, t3⟩ := hps hil
        have kw := hw.pre kH
        refine callT_to (fun m' h => f126 hs 8 (Nat.le_refl _) (H := t.H) (a := posN s e0 i) (by omega) m' h) rfl kw fun r1 H1 ⟨⟨dd1, e1⟩, e2⟩ => ?_
        subst e1
        have e2 : H1 = t.H := e2
        subst e2
        rw [t1]
        have w2 : IntKind.i64.wrap (((posN s e0 i : Nat) : Int) + (((posN s e0 (i + 1) : Nat) : Int) - ((posN s e0 i : Nat) : Int))) = ((posN s e0 (i + 1) : Nat) : Int) := by rw [wrap64 _ (by omega) (by omega)]; omega
        have hsl := fun {t' : St} {x y z : X} => slc_mid (s := t') (x := x) (y := y) (z := z) t2 t3
        obtain ⟨v2, H2, d1, d2, d3, d4, d5, d6, d7⟩ := ks.oneS (m := m) (s.extract (posN s e0 i) (posN s e0 (i + 1))) ko kH.length_le hw (by rw [segL_len]; omega)
        have hp2 := d7 H (Nat.le_refl _) kH
        simp only [go_sem, ↓reduceIte, Nat.reduceEqDiff, reduceCtorEq, Nat.reduceAdd, Nat.reduceLeDiff, Nat.reduceMul, lenE, List.getElem?_toArray, ofV, k0, k4, k5, k7, k8, w2, hsl]
        rw [d1]
        rotate_left
        · rfl
        · rfl
        · rfl
        simp only [go_sem, ↓reduceIte, Nat.reduceEqDiff, reduceCtorEq, Nat.reduceAdd, Nat.reduceLeDiff, Nat.reduceMul, k0, k4, k5, k7, k8, w2, wrap64 ((i : Int) + 1) (by omega) (by omega)]
        exact ⟨hil, hp2, by simp, v2, rfl, by rw [segL_succ]; exact d2, d3⟩
      · have : i = n := by have := of_decide_eq_false q; omega
        subst this
        exact ⟨kH, wv, rfl, ks, ko⟩
    · rintro t ⟨kH, wv, k4, ks, ko⟩
      simp only [go_sem, ↓reduceIte, Nat.reduceEqDiff, reduceCtorEq, Nat.reduceAdd, Nat.reduceLeDiff, Nat.reduceMul, k4]
      exact ⟨wv, rfl, kH, ks, ko⟩
end Go.Proofs.Ytpdkgbamakileaa.Ev

/- A sealed line read: both ways. -/
namespace Go.Proofs.Ytpdkgbamakileaa.Ev
set_option linter.all false
open Go
set_option maxRecDepth 4000

noncomputable def inB (k : Int) (row : ByteArray) : ByteArray := (openB row k).getD ⟨#[]⟩
noncomputable def ptL (k : Int) (row : ByteArray) : List ByteArray := (partsB (inB k row)).getD []
noncomputable def lnL (k : Int) (row : ByteArray) : Ln := if (ptL k row).length = 4 then ((numR ((ptL k row)[1]?.getD ⟨#[]⟩)).getD 0, (numR ((ptL k row)[2]?.getD ⟨#[]⟩)).getD 0, (atomR ((ptL k row)[3]?.getD ⟨#[]⟩)).getD ⟨#[]⟩) else (0, 0, ⟨#[]⟩)
def LnOk (k q : Int) (row : ByteArray) : Prop := (ptL k row).length = 4 ∧ sealLine k q (lnL k row) = row
theorem Sl.strC {H : Hp} {v : Value} {l : List ByteArray} (h : SlS H v l) {i : Nat} (hi : i < l.length) (c : Int) (hc : c = (i : Int)) : ∃ id p o, H[id]? = some o ∧ o[p]? = some (.string (l[i]?.getD ⟨#[]⟩)) ∧
    ∀ (s : St) (x : X), exv s.ρ x = some v → iadrK s 1 x (.c (.int .i64 c)) = some (.val (.pointer (some ⟨id, p, some o.length⟩)), s) := by
  subst hc
  obtain ⟨id, p, o, h1, h2, h3⟩ := h.str (List.getElem?_eq_getElem hi)
  exact ⟨id, p, o, h1, by rw [List.getElem?_eq_getElem hi]; exact h2, fun s x hx => h3 s x _ hx rfl⟩

end Go.Proofs.Ytpdkgbamakileaa.Ev

/- Reading a sealed log: both ways. -/
namespace Go.Proofs.Ytpdkgbamakileaa.Ev
set_option linter.all false
open Go
set_option maxRecDepth 4000

def ReadOk (k : Int) (rows : List ByteArray) (j : Nat) : Prop := ∀ row, rows[j]? = some row → LnOk k ((j : Int) + 1) row ∧ ∀ row', 0 < j → rows[j - 1]? = some row' → (lnL k row').1 ≤ (lnL k row).1
def FinOk (k : Int) (rows : List ByteArray) (head : ByteArray) : Prop := sealHead k rows.length ≠ ⟨#[]⟩ ∧ sealHead k rows.length = head ∧ rows.length ≤ 20
def ArR (k : Int) (rows : List ByteArray) (head : ByteArray) (l : List Ln) (n : Int) : Prop :=
  (∃ i, i < rows.length ∧ (∀ j, j < i → ReadOk k rows j) ∧ ¬ ReadOk k rows i ∧ l = [] ∧ n = (i : Int) + 1) ∨
  ((∀ j, j < rows.length → ReadOk k rows j) ∧ (FinOk k rows head ∧ l = rows.map (lnL k) ∧ n = 0 ∨ ¬ FinOk k rows head ∧ l = [] ∧ n = -1))
theorem ArR.unique {k : Int} {rows : List ByteArray} {head : ByteArray} {l l' : List Ln} {n n' : Int} (h : ArR k rows head l n) (h' : ArR k rows head l' n') : l = l' ∧ n = n' := by
  rcases h with ⟨i, h1, h2, h3, rfl, rfl⟩ | ⟨h1, h2⟩
  · rcases h' with ⟨i', k1, k2, k3, rfl, rfl⟩ | ⟨k1, k2⟩
    · have : i = i' := by
        rcases Nat.lt_trichotomy i i' with h | h | h
        · exact absurd (k2 _ h) h3
        · exact h
        · exact absurd (h2 _ h) k3
      subst this
      exact ⟨rfl, rfl⟩
    · exact absurd (k1 _ h1) h3
  · rcases h' with ⟨i', k1, k2, k3, rfl, rfl⟩ | ⟨k1, k2⟩
    · exact absurd (h1 _ k1) k3
    · rcases h2 with ⟨a, rfl, rfl⟩ | ⟨a, rfl, rfl⟩ <;> rcases k2 with ⟨b, rfl, rfl⟩ | ⟨b, rfl, rfl⟩
      · exact ⟨rfl, rfl⟩
      · exact absurd a b
      · exact absurd b a
      · exact ⟨rfl, rfl⟩
def ARd (H : Hp) (k : Int) (rows : List ByteArray) (head : ByteArray) (r : Value) (H' : Hp) : Prop := ∃ w n l, r = .tuple #[w, .int .i64 n] ∧ FreshS eLn 3 H w H' l ∧ ArR k rows head l n
theorem ARd.no {H H' : Hp} {k : Int} {rows : List ByteArray} {head : ByteArray} {w : Value} {i : Nat} (h1 : i < rows.length) (h2 : ∀ j, j < i → ReadOk k rows j) (h3 : ¬ ReadOk k rows i) (hf : FreshS eLn 3 H w H' []) : ARd H k rows head (.tuple #[w, .int .i64 ((i : Int) + 1)]) H' :=
  ⟨w, _, [], rfl, hf, .inl ⟨i, h1, h2, h3, rfl, rfl⟩⟩
theorem ARd.fin {H H' : Hp} {k : Int} {rows : List ByteArray} {head : ByteArray} {w : Value} (h1 : ∀ j, j < rows.length → ReadOk k rows j) (h3 : ¬ FinOk k rows head) (hf : FreshS eLn 3 H w H' []) : ARd H k rows head (.tuple #[w, .int .i64 (-1)]) H' :=
  ⟨w, _, [], rfl, hf, .inr ⟨h1, .inr ⟨h3, rfl, rfl⟩⟩⟩
theorem ARd.yes {H H' : Hp} {k : Int} {rows : List ByteArray} {head : ByteArray} {w : Value} (h1 : ∀ j, j < rows.length → ReadOk k rows j) (h3 : FinOk k rows head) (hf : FreshS eLn 3 H w H' (rows.map (lnL k))) : ARd H k rows head (.tuple #[w, .int .i64 0]) H' :=
  ⟨w, _, _, rfl, hf, .inr ⟨h1, .inl ⟨h3, rfl, rfl⟩⟩⟩
theorem FreshS.nil {H H' : Hp} (hp : H <+: H') : FreshS eLn 3 H (.slice none 0 0) H' [] := ⟨hp, .inl ⟨rfl, rfl⟩, .inl rfl⟩
end Go.Proofs.Ytpdkgbamakileaa.Ev

/- The law AuditRead. -/
namespace Go.Proofs.Ytpdkgbamakileaa.Ev
set_option linter.all false
open Go
set_option maxRecDepth 4000

end Go.Proofs.Ytpdkgbamakileaa.Ev
