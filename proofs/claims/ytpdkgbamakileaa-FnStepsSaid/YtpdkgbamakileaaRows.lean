/-
  No cell of these rows narrows 'for every input' (looked for: loops, veiled, ifaces, maps, wideKeys, modest, calm, conditions, laid).
  DERIVED. THE GIVEN ROWS OF THIS SEAT. 8 by the template 'for every input the law returns true; each argument reads behind the call as it read before'; 0 by the template 'total and deterministic' (their statements: YtpdkgbamakileaaTotals.lean).
  GIVEN WITH THE SEED: the statements are not yours to turn. If you find one false, say at which input.
  Laid BY PROGRAM, IN A SANDBOX (cutbox-rows.mjs): the forced cells as the released guide's own fill.sh prints them over the translation 0eca869dfb9f3ec2… (all of the seat's roots in one cut). By AI agents, Wed Nov 11 2026. No macro, syntax, notation, axiom, sorry.
-/
import Derived.Test.YtpdkgbamakileaaChecked
import GoSem.Claim
import GoSem.ClaimJoined
import GoSem.ClaimMapViews
import Derived.JoinedTies
import Derived.KernelRfl
namespace Go.Proofs.Ytpdkgbamakileaa
/- THE CELL 'sum', in the pinned program and in every row, IS THE sha256 OF THE DUMP (.gsa) THAT YtpdkgbamakileaaProg.lean LOADS. Nothing in Lean hashes anything: it is a label: what it is worth is what the hold of that sum in a sandbox is worth. -/
noncomputable def Try.pinned : Pinned := { name := "ytpdkgbamakileaa", sum := "0eca869dfb9f3ec2ac2e8ca2d2f19c9339e3f5d6ef8f0f92b3cb01c4327c1b52", checked := Try.checked }
namespace Rows
def none {H : Type} : Left H := { results := [], args := [] }

/-- 'laws.FnExactSealHead': WHATEVER THE INPUT: true; the input reads as it did. -/
def fnExactSealHeadSpec : ChangeSpec := { name := "fnExactSealHead", fn := fun _ => fun
  | [d1, d2] => { results := [.lit (.bool true)], args := [d1, d2] }
  | _ => none }
def fnExactSealHeadRow : OpenClaim := { program := "ytpdkgbamakileaa", sum := "0eca869dfb9f3ec2ac2e8ca2d2f19c9339e3f5d6ef8f0f92b3cb01c4327c1b52", func := "loop.example/g00769/laws.FnExactSealHead", spec := "fnExactSealHead", recurses := true, apart := false }
def FnExactSealHeadSaid : Prop := fnExactSealHeadRow.holds Try.pinned (OpenSpec.ofChange fnExactSealHeadSpec)

/-- ITS FALSE NEIGHBOUR: 'it returns false'. Refute it at one input. -/
def fnExactSealHeadWrong : ChangeSpec := { name := "fnExactSealHead", fn := fun _ => fun
  | [d1, d2] => { results := [.lit (.bool false)], args := [d1, d2] }
  | _ => none }
def FnExactSealHeadWrongFalsely : Prop := fnExactSealHeadRow.holds Try.pinned (OpenSpec.ofChange fnExactSealHeadWrong)

/-- 'laws.FnExactSealLine': WHATEVER THE INPUT: true; the input reads as it did. -/
def fnExactSealLineSpec : ChangeSpec := { name := "fnExactSealLine", fn := fun _ => fun
  | [d1, d2, d3] => { results := [.lit (.bool true)], args := [d1, d2, d3] }
  | _ => none }
def fnExactSealLineRow : OpenClaim := { program := "ytpdkgbamakileaa", sum := "0eca869dfb9f3ec2ac2e8ca2d2f19c9339e3f5d6ef8f0f92b3cb01c4327c1b52", func := "loop.example/g00769/laws.FnExactSealLine", spec := "fnExactSealLine", recurses := true, apart := false }
def FnExactSealLineSaid : Prop := fnExactSealLineRow.holds Try.pinned (OpenSpec.ofChange fnExactSealLineSpec)

/-- ITS FALSE NEIGHBOUR: 'it returns false'. Refute it at one input. -/
def fnExactSealLineWrong : ChangeSpec := { name := "fnExactSealLine", fn := fun _ => fun
  | [d1, d2, d3] => { results := [.lit (.bool false)], args := [d1, d2, d3] }
  | _ => none }
def FnExactSealLineWrongFalsely : Prop := fnExactSealLineRow.holds Try.pinned (OpenSpec.ofChange fnExactSealLineWrong)

/-- 'laws.FnExactAuditAll': WHATEVER THE INPUT: true; the input reads as it did. -/
def fnExactAuditAllSpec : ChangeSpec := { name := "fnExactAuditAll", fn := fun _ => fun
  | [d1, d2] => { results := [.lit (.bool true)], args := [d1, d2] }
  | _ => none }
def fnExactAuditAllRow : OpenClaim := { program := "ytpdkgbamakileaa", sum := "0eca869dfb9f3ec2ac2e8ca2d2f19c9339e3f5d6ef8f0f92b3cb01c4327c1b52", func := "loop.example/g00769/laws.FnExactAuditAll", spec := "fnExactAuditAll", recurses := true, apart := false }
def FnExactAuditAllSaid : Prop := fnExactAuditAllRow.holds Try.pinned (OpenSpec.ofChange fnExactAuditAllSpec)

/-- ITS FALSE NEIGHBOUR: 'it returns false'. Refute it at one input. -/
def fnExactAuditAllWrong : ChangeSpec := { name := "fnExactAuditAll", fn := fun _ => fun
  | [d1, d2] => { results := [.lit (.bool false)], args := [d1, d2] }
  | _ => none }
def FnExactAuditAllWrongFalsely : Prop := fnExactAuditAllRow.holds Try.pinned (OpenSpec.ofChange fnExactAuditAllWrong)

/-- 'laws.FnExactAuditRead': WHATEVER THE INPUT: true; the input reads as it did. -/
def fnExactAuditReadSpec : ChangeSpec := { name := "fnExactAuditRead", fn := fun _ => fun
  | [d1, d2, d3] => { results := [.lit (.bool true)], args := [d1, d2, d3] }
  | _ => none }
def fnExactAuditReadRow : OpenClaim := { program := "ytpdkgbamakileaa", sum := "0eca869dfb9f3ec2ac2e8ca2d2f19c9339e3f5d6ef8f0f92b3cb01c4327c1b52", func := "loop.example/g00769/laws.FnExactAuditRead", spec := "fnExactAuditRead", recurses := true, apart := false }
def FnExactAuditReadSaid : Prop := fnExactAuditReadRow.holds Try.pinned (OpenSpec.ofChange fnExactAuditReadSpec)

/-- ITS FALSE NEIGHBOUR: 'it returns false'. Refute it at one input. -/
def fnExactAuditReadWrong : ChangeSpec := { name := "fnExactAuditRead", fn := fun _ => fun
  | [d1, d2, d3] => { results := [.lit (.bool false)], args := [d1, d2, d3] }
  | _ => none }
def FnExactAuditReadWrongFalsely : Prop := fnExactAuditReadRow.holds Try.pinned (OpenSpec.ofChange fnExactAuditReadWrong)

/-- 'laws.FnAudit': WHATEVER THE INPUT: true; the input reads as it did. -/
def fnAuditSpec : ChangeSpec := { name := "fnAudit", fn := fun _ => fun
  | [d] => { results := [.lit (.bool true)], args := [d] }
  | _ => none }
def fnAuditRow : OpenClaim := { program := "ytpdkgbamakileaa", sum := "0eca869dfb9f3ec2ac2e8ca2d2f19c9339e3f5d6ef8f0f92b3cb01c4327c1b52", func := "loop.example/g00769/laws.FnAudit", spec := "fnAudit", recurses := true, apart := false }
def FnAuditSaid : Prop := fnAuditRow.holds Try.pinned (OpenSpec.ofChange fnAuditSpec)

/-- ITS FALSE NEIGHBOUR: 'it returns false'. Refute it at one input. -/
def fnAuditWrong : ChangeSpec := { name := "fnAudit", fn := fun _ => fun
  | [d] => { results := [.lit (.bool false)], args := [d] }
  | _ => none }
def FnAuditWrongFalsely : Prop := fnAuditRow.holds Try.pinned (OpenSpec.ofChange fnAuditWrong)

/-- 'laws.FnExactStepsOk': WHATEVER THE INPUT: true; the input reads as it did. -/
def fnExactStepsOkSpec : ChangeSpec := { name := "fnExactStepsOk", fn := fun _ => fun
  | [d1, d2] => { results := [.lit (.bool true)], args := [d1, d2] }
  | _ => none }
def fnExactStepsOkRow : OpenClaim := { program := "ytpdkgbamakileaa", sum := "0eca869dfb9f3ec2ac2e8ca2d2f19c9339e3f5d6ef8f0f92b3cb01c4327c1b52", func := "loop.example/g00769/laws.FnExactStepsOk", spec := "fnExactStepsOk", recurses := true, apart := false }
def FnExactStepsOkSaid : Prop := fnExactStepsOkRow.holds Try.pinned (OpenSpec.ofChange fnExactStepsOkSpec)

/-- ITS FALSE NEIGHBOUR: 'it returns false'. Refute it at one input. -/
def fnExactStepsOkWrong : ChangeSpec := { name := "fnExactStepsOk", fn := fun _ => fun
  | [d1, d2] => { results := [.lit (.bool false)], args := [d1, d2] }
  | _ => none }
def FnExactStepsOkWrongFalsely : Prop := fnExactStepsOkRow.holds Try.pinned (OpenSpec.ofChange fnExactStepsOkWrong)

/-- 'laws.FnExactSteps': WHATEVER THE INPUT: true; the input reads as it did. -/
def fnExactStepsSpec : ChangeSpec := { name := "fnExactSteps", fn := fun _ => fun
  | [d] => { results := [.lit (.bool true)], args := [d] }
  | _ => none }
def fnExactStepsRow : OpenClaim := { program := "ytpdkgbamakileaa", sum := "0eca869dfb9f3ec2ac2e8ca2d2f19c9339e3f5d6ef8f0f92b3cb01c4327c1b52", func := "loop.example/g00769/laws.FnExactSteps", spec := "fnExactSteps", unfollowed := true, recurses := true, apart := false }
def FnExactStepsSaid : Prop := fnExactStepsRow.holds Try.pinned (OpenSpec.ofChange fnExactStepsSpec)

/-- ITS FALSE NEIGHBOUR: 'it returns false'. Refute it at one input. -/
def fnExactStepsWrong : ChangeSpec := { name := "fnExactSteps", fn := fun _ => fun
  | [d] => { results := [.lit (.bool false)], args := [d] }
  | _ => none }
def FnExactStepsWrongFalsely : Prop := fnExactStepsRow.holds Try.pinned (OpenSpec.ofChange fnExactStepsWrong)

/-- 'laws.FnSteps': WHATEVER THE INPUT: true; the input reads as it did. -/
def fnStepsSpec : ChangeSpec := { name := "fnSteps", fn := fun _ => fun
  | [d] => { results := [.lit (.bool true)], args := [d] }
  | _ => none }
def fnStepsRow : OpenClaim := { program := "ytpdkgbamakileaa", sum := "0eca869dfb9f3ec2ac2e8ca2d2f19c9339e3f5d6ef8f0f92b3cb01c4327c1b52", func := "loop.example/g00769/laws.FnSteps", spec := "fnSteps", unfollowed := true, recurses := true, apart := false }
def FnStepsSaid : Prop := fnStepsRow.holds Try.pinned (OpenSpec.ofChange fnStepsSpec)

/-- ITS FALSE NEIGHBOUR: 'it returns false'. Refute it at one input. -/
def fnStepsWrong : ChangeSpec := { name := "fnSteps", fn := fun _ => fun
  | [d] => { results := [.lit (.bool false)], args := [d] }
  | _ => none }
def FnStepsWrongFalsely : Prop := fnStepsRow.holds Try.pinned (OpenSpec.ofChange fnStepsWrong)

/- THE SECOND FORM. 'bulk': how many values and letters a reading holds, each counted each time it is reached (what is shared counts as often as it is met; a slice's spare places count too). A statement '..UptoSaid' is the law's where the arguments, and the package variables that the reading takes, are together of bulk at most 1048576: NARROWER than '..Said'. Prove '..Said' where nothing that the law and all that it calls make is longer than what came in: it says more and counts as full. Else prove '..UptoSaid'. A law counts once. -/
mutual
def uptoBulk {H : Type} : DataW H → Nat
  | .lit (.string bytes) => bytes.length + 1
  | .lit _ => 1
  | .nil => 1
  | .ptr d => uptoBulk d + 1
  | .slice elems spare => uptoBulkAll elems + uptoBulkAll spare + 1
  | .agg parts => uptoBulkAll parts + 1
  | .iface _ d => uptoBulk d + 1
  | .map entries => uptoBulkEntries entries + 1
  | .held _ => 1
def uptoBulkAll {H : Type} : List (DataW H) → Nat
  | [] => 0
  | d :: r => uptoBulk d + uptoBulkAll r
def uptoBulkEntries {H : Type} : List (Lit × DataW H) → Nat
  | [] => 0
  | x :: r => uptoBulkEntry x + uptoBulkEntries r
def uptoBulkEntry {H : Type} : Lit × DataW H → Nat
  | (.string bytes, d) => bytes.length + uptoBulk d + 1
  | (_, d) => uptoBulk d + 1
 end
def uptoSmall : (H : Type) → List (DataW H) → Bool := fun _ ds => decide (uptoBulkAll ds ≤ 1048576)
def OpenSpec.upto (s : _root_.Go.ChangeSpec) : _root_.Go.OpenSpec := { _root_.Go.OpenSpec.ofChange s with cond := some uptoSmall }

/-- 'laws.FnExactSealHead', WHERE WHAT IT READS IS OF BULK AT MOST 1048576: true; the input reads as it did. -/
def fnExactSealHeadUptoRow : OpenClaim := { program := "ytpdkgbamakileaa", sum := "0eca869dfb9f3ec2ac2e8ca2d2f19c9339e3f5d6ef8f0f92b3cb01c4327c1b52", func := "loop.example/g00769/laws.FnExactSealHead", spec := "fnExactSealHead", recurses := true, apart := false, narrowed := true }
def FnExactSealHeadUptoSaid : Prop := fnExactSealHeadUptoRow.holds Try.pinned (OpenSpec.upto fnExactSealHeadSpec)

/-- 'laws.FnExactSealLine', WHERE WHAT IT READS IS OF BULK AT MOST 1048576: true; the input reads as it did. -/
def fnExactSealLineUptoRow : OpenClaim := { program := "ytpdkgbamakileaa", sum := "0eca869dfb9f3ec2ac2e8ca2d2f19c9339e3f5d6ef8f0f92b3cb01c4327c1b52", func := "loop.example/g00769/laws.FnExactSealLine", spec := "fnExactSealLine", recurses := true, apart := false, narrowed := true }
def FnExactSealLineUptoSaid : Prop := fnExactSealLineUptoRow.holds Try.pinned (OpenSpec.upto fnExactSealLineSpec)

/-- 'laws.FnExactAuditAll', WHERE WHAT IT READS IS OF BULK AT MOST 1048576: true; the input reads as it did. -/
def fnExactAuditAllUptoRow : OpenClaim := { program := "ytpdkgbamakileaa", sum := "0eca869dfb9f3ec2ac2e8ca2d2f19c9339e3f5d6ef8f0f92b3cb01c4327c1b52", func := "loop.example/g00769/laws.FnExactAuditAll", spec := "fnExactAuditAll", recurses := true, apart := false, narrowed := true }
def FnExactAuditAllUptoSaid : Prop := fnExactAuditAllUptoRow.holds Try.pinned (OpenSpec.upto fnExactAuditAllSpec)

/-- 'laws.FnExactAuditRead', WHERE WHAT IT READS IS OF BULK AT MOST 1048576: true; the input reads as it did. -/
def fnExactAuditReadUptoRow : OpenClaim := { program := "ytpdkgbamakileaa", sum := "0eca869dfb9f3ec2ac2e8ca2d2f19c9339e3f5d6ef8f0f92b3cb01c4327c1b52", func := "loop.example/g00769/laws.FnExactAuditRead", spec := "fnExactAuditRead", recurses := true, apart := false, narrowed := true }
def FnExactAuditReadUptoSaid : Prop := fnExactAuditReadUptoRow.holds Try.pinned (OpenSpec.upto fnExactAuditReadSpec)

/-- 'laws.FnAudit', WHERE WHAT IT READS IS OF BULK AT MOST 1048576: true; the input reads as it did. -/
def fnAuditUptoRow : OpenClaim := { program := "ytpdkgbamakileaa", sum := "0eca869dfb9f3ec2ac2e8ca2d2f19c9339e3f5d6ef8f0f92b3cb01c4327c1b52", func := "loop.example/g00769/laws.FnAudit", spec := "fnAudit", recurses := true, apart := false, narrowed := true }
def FnAuditUptoSaid : Prop := fnAuditUptoRow.holds Try.pinned (OpenSpec.upto fnAuditSpec)

/-- 'laws.FnExactStepsOk', WHERE WHAT IT READS IS OF BULK AT MOST 1048576: true; the input reads as it did. -/
def fnExactStepsOkUptoRow : OpenClaim := { program := "ytpdkgbamakileaa", sum := "0eca869dfb9f3ec2ac2e8ca2d2f19c9339e3f5d6ef8f0f92b3cb01c4327c1b52", func := "loop.example/g00769/laws.FnExactStepsOk", spec := "fnExactStepsOk", recurses := true, apart := false, narrowed := true }
def FnExactStepsOkUptoSaid : Prop := fnExactStepsOkUptoRow.holds Try.pinned (OpenSpec.upto fnExactStepsOkSpec)

/-- 'laws.FnExactSteps', WHERE WHAT IT READS IS OF BULK AT MOST 1048576: true; the input reads as it did. -/
def fnExactStepsUptoRow : OpenClaim := { program := "ytpdkgbamakileaa", sum := "0eca869dfb9f3ec2ac2e8ca2d2f19c9339e3f5d6ef8f0f92b3cb01c4327c1b52", func := "loop.example/g00769/laws.FnExactSteps", spec := "fnExactSteps", unfollowed := true, recurses := true, apart := false, narrowed := true }
def FnExactStepsUptoSaid : Prop := fnExactStepsUptoRow.holds Try.pinned (OpenSpec.upto fnExactStepsSpec)

/-- 'laws.FnSteps', WHERE WHAT IT READS IS OF BULK AT MOST 1048576: true; the input reads as it did. -/
def fnStepsUptoRow : OpenClaim := { program := "ytpdkgbamakileaa", sum := "0eca869dfb9f3ec2ac2e8ca2d2f19c9339e3f5d6ef8f0f92b3cb01c4327c1b52", func := "loop.example/g00769/laws.FnSteps", spec := "fnSteps", unfollowed := true, recurses := true, apart := false, narrowed := true }
def FnStepsUptoSaid : Prop := fnStepsUptoRow.holds Try.pinned (OpenSpec.upto fnStepsSpec)

end Rows
end Go.Proofs.Ytpdkgbamakileaa
