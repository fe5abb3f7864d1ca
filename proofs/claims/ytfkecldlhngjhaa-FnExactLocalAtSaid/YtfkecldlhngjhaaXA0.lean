-- Written by xprint.py, this session's program over the kit's print
import Derived.Test.YtfkecldlhngjhaaProg
import Derived.Below
import Derived.Deep.Draws
import Derived.Deep.AppendLies
import Derived.Maps.AppendAt
import Derived.OwnWalk
import Derived.Laws.BytesArg
import Derived.Laws.MakeOwn
import Derived.Laws.OwnMore
import Derived.Deep.OwnRows
import Derived.Tactics
import Derived.Lib.ConvBytes
import Derived.Laws.Slices
import Derived.WalkKit
import Derived.KernelRfl
import Derived.RowKit3
import Derived.Deep.LoopGhost
import Derived.Deep.QuietTactic
import Derived.BigQuiet
import Derived.WideLaws
import Derived.Deep.DeepCutAuto
import Derived.Deep.CutBlock
import Derived.Deep.RegionHeld3
import Derived.Laws.Rows
import Derived.Lib.AppendStr
import Derived.ArgAppend
import Derived.Laws.IdiomCopy
import Derived.OrdersHeld
import Derived.Laws.BitsLemmas
import Derived.RowKit
import Derived.Test.YtfkecldlhngjhaaWWords
import Derived.Test.YtfkecldlhngjhaaWLast
import Derived.Test.YtfkecldlhngjhaaWTab
import Derived.Test.YtfkecldlhngjhaaWFour
import Derived.Test.YtfkecldlhngjhaaWQPut
import Derived.Test.YtfkecldlhngjhaaWApart
import Derived.Test.YtfkecldlhngjhaaWArr
import Derived.Test.YtfkecldlhngjhaaWZeros
import Derived.Test.YtfkecldlhngjhaaWFoot
import Derived.Test.YtfkecldlhngjhaaWKept
import Derived.Test.YtfkecldlhngjhaaWShare
import Derived.Test.YtfkecldlhngjhaaWN
import Derived.Test.YtfkecldlhngjhaaWFootNe
import Derived.Test.YtfkecldlhngjhaaWAt
import Derived.Test.YtfkecldlhngjhaaWEqStruct
import Derived.Test.YtfkecldlhngjhaaWRepsOne
import Derived.Test.YtfkecldlhngjhaaWInv
import Derived.Test.YtfkecldlhngjhaaWInvWords
import Derived.Test.YtfkecldlhngjhaaWGuard
import Derived.Test.YtfkecldlhngjhaaWNEv
import Derived.Test.YtfkecldlhngjhaaWMore
namespace Go.Proofs.Ytfkecldlhngjhaa.XA
open Go.RowKit Go.Proofs.YtfkecldlhngjhaaW.PrintWords Go.Proofs.YtfkecldlhngjhaaW.PrintLast Go.Proofs.YtfkecldlhngjhaaW.PrintMore
attribute [local go_sem] max2_int min2_int max_two min_two max_three min_three max_four min_four   -- for this text's walks alone
set_option linter.unusedVariables false
set_option linter.unusedSimpArgs false



def errW : Option Int → Value
  | none => .nilIface
  | some c => .iface 0 (.int .i64 c)
theorem errW_none : errW none = .nilIface := rfl
theorem errW_some (c : Int) : errW (some c) = .iface 0 (.int .i64 c) := rfl

theorem info3 : (Try.prog.info? 3).map (fun i => (i.zero, i.size, i.bytes)) = some (some (.int .i64 0), 1, 8) := by kernel_rfl
-- the values' own types

end Go.Proofs.Ytfkecldlhngjhaa.XA
