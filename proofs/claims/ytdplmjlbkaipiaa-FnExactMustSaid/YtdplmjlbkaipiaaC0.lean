/- The seat's program on the small machine: which slots hold boxes of their own, which functions leave memory as it is. -/
import Derived.Test.YtdplmjlbkaipiaaProg
import Derived.Test.YtdplmjlbkaipiaaE24
namespace Go.Proofs.Ytdplmjlbkaipiaa.Ev
set_option linter.all false
open Go
def hvT : List (Nat × List Nat) := [(18, [4]), (24, [38, 68]), (25, [35, 66]), (29, [41]), (30, [39]), (31, [20]), (37, [25, 37]), (41, [4]), (43, [24]), (44, [5, 26]), (46, [60]), (48, [21]), (49, [20]), (50, [7, 75]), (51, [7, 68]), (56, [3]), (57, [1, 2, 3]), (59, [3]), (60, [2, 3]), (63, [11]), (64, [11, 44]), (65, [42]), (69, [5, 31, 41]), (71, [2]), (73, [1, 2, 3]), (79, [2, 3]), (81, [36]), (83, [6, 27, 40, 45, 60, 78]), (84, [3]), (93, [31, 38, 44])]
def hv (f t : Nat) : Bool := match hvT.find? (·.1 == f) with | some p => p.2.contains t | none => false
def trT : List Nat := [15, 16, 18, 19, 20, 22, 23, 28, 35, 36, 38, 39, 41, 42, 52, 55, 56, 57, 58, 59, 60, 61, 62, 64, 71, 72, 74, 75, 76, 77, 78, 79, 84, 85, 90, 91, 92]
noncomputable def EE : Env := { fns := fnsOf Go.Proofs.Try.prog hv, prim := fun _ => none, pw := fun _ => false, tr := fun f => trT.contains f }
end Go.Proofs.Ytdplmjlbkaipiaa.Ev
