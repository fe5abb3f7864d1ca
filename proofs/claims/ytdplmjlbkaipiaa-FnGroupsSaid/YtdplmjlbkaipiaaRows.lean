/-
  No cell of these rows narrows 'for every input' (looked for: loops, veiled, ifaces, maps, wideKeys, modest, calm, conditions, laid).
  DERIVED. THE GIVEN ROWS OF THIS SEAT. 12 by the template 'for every input the law returns true; each argument reads behind the call as it read before'; 0 by the template 'total and deterministic' (their statements: YtdplmjlbkaipiaaTotals.lean).
  GIVEN WITH THE SEED: the statements are not yours to turn. If you find one false, say at which input.
  Laid BY PROGRAM, IN A SANDBOX (cutbox-rows.mjs): the forced cells as the released guide's own fill.sh prints them over the translation 9fda6b6fe6b12fde… (all of the seat's roots in one cut). By AI agents, Wed Nov 11 2026. No macro, syntax, notation, axiom, sorry.
-/
import Derived.Test.YtdplmjlbkaipiaaChecked
import GoSem.Claim
import GoSem.ClaimJoined
import GoSem.ClaimMapViews
import Derived.JoinedTies
import Derived.KernelRfl
namespace Go.Proofs.Ytdplmjlbkaipiaa
/- THE CELL 'sum', in the pinned program and in every row, IS THE sha256 OF THE DUMP (.gsa) THAT YtdplmjlbkaipiaaProg.lean LOADS. Nothing in Lean hashes anything: it is a label: what it is worth is what the hold of that sum in a sandbox is worth. -/
noncomputable def Try.pinned : Pinned := { name := "ytdplmjlbkaipiaa", sum := "9fda6b6fe6b12fde45fe659b780feea7a53c698006036252310332d8600784d5", checked := Try.checked }
namespace Rows
def none {H : Type} : Left H := { results := [], args := [] }

/-- 'laws.FnExactHopsOk': WHATEVER THE INPUT: true; the input reads as it did. -/
def fnExactHopsOkSpec : ChangeSpec := { name := "fnExactHopsOk", fn := fun _ => fun
  | [d] => { results := [.lit (.bool true)], args := [d] }
  | _ => none }
def fnExactHopsOkRow : OpenClaim := { program := "ytdplmjlbkaipiaa", sum := "9fda6b6fe6b12fde45fe659b780feea7a53c698006036252310332d8600784d5", func := "loop.example/g00769/laws.FnExactHopsOk", spec := "fnExactHopsOk", apart := false }
def FnExactHopsOkSaid : Prop := fnExactHopsOkRow.holds Try.pinned (OpenSpec.ofChange fnExactHopsOkSpec)

/-- ITS FALSE NEIGHBOUR: 'it returns false'. Refute it at one input. -/
def fnExactHopsOkWrong : ChangeSpec := { name := "fnExactHopsOk", fn := fun _ => fun
  | [d] => { results := [.lit (.bool false)], args := [d] }
  | _ => none }
def FnExactHopsOkWrongFalsely : Prop := fnExactHopsOkRow.holds Try.pinned (OpenSpec.ofChange fnExactHopsOkWrong)

/-- 'laws.FnExactRouteOk': WHATEVER THE INPUT: true; the input reads as it did. -/
def fnExactRouteOkSpec : ChangeSpec := { name := "fnExactRouteOk", fn := fun _ => fun
  | [d1, d2, d3] => { results := [.lit (.bool true)], args := [d1, d2, d3] }
  | _ => none }
def fnExactRouteOkRow : OpenClaim := { program := "ytdplmjlbkaipiaa", sum := "9fda6b6fe6b12fde45fe659b780feea7a53c698006036252310332d8600784d5", func := "loop.example/g00769/laws.FnExactRouteOk", spec := "fnExactRouteOk", apart := false }
def FnExactRouteOkSaid : Prop := fnExactRouteOkRow.holds Try.pinned (OpenSpec.ofChange fnExactRouteOkSpec)

/-- ITS FALSE NEIGHBOUR: 'it returns false'. Refute it at one input. -/
def fnExactRouteOkWrong : ChangeSpec := { name := "fnExactRouteOk", fn := fun _ => fun
  | [d1, d2, d3] => { results := [.lit (.bool false)], args := [d1, d2, d3] }
  | _ => none }
def FnExactRouteOkWrongFalsely : Prop := fnExactRouteOkRow.holds Try.pinned (OpenSpec.ofChange fnExactRouteOkWrong)

/-- 'laws.FnExactRoute': WHATEVER THE INPUT: true; the input reads as it did. -/
def fnExactRouteSpec : ChangeSpec := { name := "fnExactRoute", fn := fun _ => fun
  | [d1, d2, d3] => { results := [.lit (.bool true)], args := [d1, d2, d3] }
  | _ => none }
def fnExactRouteRow : OpenClaim := { program := "ytdplmjlbkaipiaa", sum := "9fda6b6fe6b12fde45fe659b780feea7a53c698006036252310332d8600784d5", func := "loop.example/g00769/laws.FnExactRoute", spec := "fnExactRoute", apart := false }
def FnExactRouteSaid : Prop := fnExactRouteRow.holds Try.pinned (OpenSpec.ofChange fnExactRouteSpec)

/-- ITS FALSE NEIGHBOUR: 'it returns false'. Refute it at one input. -/
def fnExactRouteWrong : ChangeSpec := { name := "fnExactRoute", fn := fun _ => fun
  | [d1, d2, d3] => { results := [.lit (.bool false)], args := [d1, d2, d3] }
  | _ => none }
def FnExactRouteWrongFalsely : Prop := fnExactRouteRow.holds Try.pinned (OpenSpec.ofChange fnExactRouteWrong)

/-- 'laws.FnExactMust': WHATEVER THE INPUT: true; the input reads as it did. -/
def fnExactMustSpec : ChangeSpec := { name := "fnExactMust", fn := fun _ => fun
  | [d1, d2, d3] => { results := [.lit (.bool true)], args := [d1, d2, d3] }
  | _ => none }
def fnExactMustRow : OpenClaim := { program := "ytdplmjlbkaipiaa", sum := "9fda6b6fe6b12fde45fe659b780feea7a53c698006036252310332d8600784d5", func := "loop.example/g00769/laws.FnExactMust", spec := "fnExactMust", apart := false }
def FnExactMustSaid : Prop := fnExactMustRow.holds Try.pinned (OpenSpec.ofChange fnExactMustSpec)

/-- ITS FALSE NEIGHBOUR: 'it returns false'. Refute it at one input. -/
def fnExactMustWrong : ChangeSpec := { name := "fnExactMust", fn := fun _ => fun
  | [d1, d2, d3] => { results := [.lit (.bool false)], args := [d1, d2, d3] }
  | _ => none }
def FnExactMustWrongFalsely : Prop := fnExactMustRow.holds Try.pinned (OpenSpec.ofChange fnExactMustWrong)

/-- 'laws.FnExactTrusts': WHATEVER THE INPUT: true; the input reads as it did. -/
def fnExactTrustsSpec : ChangeSpec := { name := "fnExactTrusts", fn := fun _ => fun
  | [d1, d2] => { results := [.lit (.bool true)], args := [d1, d2] }
  | _ => none }
def fnExactTrustsRow : OpenClaim := { program := "ytdplmjlbkaipiaa", sum := "9fda6b6fe6b12fde45fe659b780feea7a53c698006036252310332d8600784d5", func := "loop.example/g00769/laws.FnExactTrusts", spec := "fnExactTrusts", recurses := true, apart := false }
def FnExactTrustsSaid : Prop := fnExactTrustsRow.holds Try.pinned (OpenSpec.ofChange fnExactTrustsSpec)

/-- ITS FALSE NEIGHBOUR: 'it returns false'. Refute it at one input. -/
def fnExactTrustsWrong : ChangeSpec := { name := "fnExactTrusts", fn := fun _ => fun
  | [d1, d2] => { results := [.lit (.bool false)], args := [d1, d2] }
  | _ => none }
def FnExactTrustsWrongFalsely : Prop := fnExactTrustsRow.holds Try.pinned (OpenSpec.ofChange fnExactTrustsWrong)

/-- 'laws.FnRoute': WHATEVER THE INPUT: true; the input reads as it did. -/
def fnRouteSpec : ChangeSpec := { name := "fnRoute", fn := fun _ => fun
  | [d] => { results := [.lit (.bool true)], args := [d] }
  | _ => none }
def fnRouteRow : OpenClaim := { program := "ytdplmjlbkaipiaa", sum := "9fda6b6fe6b12fde45fe659b780feea7a53c698006036252310332d8600784d5", func := "loop.example/g00769/laws.FnRoute", spec := "fnRoute", recurses := true, apart := false }
def FnRouteSaid : Prop := fnRouteRow.holds Try.pinned (OpenSpec.ofChange fnRouteSpec)

/-- ITS FALSE NEIGHBOUR: 'it returns false'. Refute it at one input. -/
def fnRouteWrong : ChangeSpec := { name := "fnRoute", fn := fun _ => fun
  | [d] => { results := [.lit (.bool false)], args := [d] }
  | _ => none }
def FnRouteWrongFalsely : Prop := fnRouteRow.holds Try.pinned (OpenSpec.ofChange fnRouteWrong)

/-- 'laws.FnExactGroupsOk': WHATEVER THE INPUT: true; the input reads as it did. -/
def fnExactGroupsOkSpec : ChangeSpec := { name := "fnExactGroupsOk", fn := fun _ => fun
  | [d] => { results := [.lit (.bool true)], args := [d] }
  | _ => none }
def fnExactGroupsOkRow : OpenClaim := { program := "ytdplmjlbkaipiaa", sum := "9fda6b6fe6b12fde45fe659b780feea7a53c698006036252310332d8600784d5", func := "loop.example/g00769/laws.FnExactGroupsOk", spec := "fnExactGroupsOk", unfollowed := true, recurses := true, apart := false }
def FnExactGroupsOkSaid : Prop := fnExactGroupsOkRow.holds Try.pinned (OpenSpec.ofChange fnExactGroupsOkSpec)

/-- ITS FALSE NEIGHBOUR: 'it returns false'. Refute it at one input. -/
def fnExactGroupsOkWrong : ChangeSpec := { name := "fnExactGroupsOk", fn := fun _ => fun
  | [d] => { results := [.lit (.bool false)], args := [d] }
  | _ => none }
def FnExactGroupsOkWrongFalsely : Prop := fnExactGroupsOkRow.holds Try.pinned (OpenSpec.ofChange fnExactGroupsOkWrong)

/-- 'laws.FnExactLoops': WHATEVER THE INPUT: true; the input reads as it did. -/
def fnExactLoopsSpec : ChangeSpec := { name := "fnExactLoops", fn := fun _ => fun
  | [d] => { results := [.lit (.bool true)], args := [d] }
  | _ => none }
def fnExactLoopsRow : OpenClaim := { program := "ytdplmjlbkaipiaa", sum := "9fda6b6fe6b12fde45fe659b780feea7a53c698006036252310332d8600784d5", func := "loop.example/g00769/laws.FnExactLoops", spec := "fnExactLoops", unfollowed := true, recurses := true, apart := false }
def FnExactLoopsSaid : Prop := fnExactLoopsRow.holds Try.pinned (OpenSpec.ofChange fnExactLoopsSpec)

/-- ITS FALSE NEIGHBOUR: 'it returns false'. Refute it at one input. -/
def fnExactLoopsWrong : ChangeSpec := { name := "fnExactLoops", fn := fun _ => fun
  | [d] => { results := [.lit (.bool false)], args := [d] }
  | _ => none }
def FnExactLoopsWrongFalsely : Prop := fnExactLoopsRow.holds Try.pinned (OpenSpec.ofChange fnExactLoopsWrong)

/-- 'laws.FnExactUsersOf': WHATEVER THE INPUT: true; the input reads as it did. -/
def fnExactUsersOfSpec : ChangeSpec := { name := "fnExactUsersOf", fn := fun _ => fun
  | [d1, d2] => { results := [.lit (.bool true)], args := [d1, d2] }
  | _ => none }
def fnExactUsersOfRow : OpenClaim := { program := "ytdplmjlbkaipiaa", sum := "9fda6b6fe6b12fde45fe659b780feea7a53c698006036252310332d8600784d5", func := "loop.example/g00769/laws.FnExactUsersOf", spec := "fnExactUsersOf", unfollowed := true, recurses := true, apart := false }
def FnExactUsersOfSaid : Prop := fnExactUsersOfRow.holds Try.pinned (OpenSpec.ofChange fnExactUsersOfSpec)

/-- ITS FALSE NEIGHBOUR: 'it returns false'. Refute it at one input. -/
def fnExactUsersOfWrong : ChangeSpec := { name := "fnExactUsersOf", fn := fun _ => fun
  | [d1, d2] => { results := [.lit (.bool false)], args := [d1, d2] }
  | _ => none }
def FnExactUsersOfWrongFalsely : Prop := fnExactUsersOfRow.holds Try.pinned (OpenSpec.ofChange fnExactUsersOfWrong)

/-- 'laws.FnExactGroupsOf': WHATEVER THE INPUT: true; the input reads as it did. -/
def fnExactGroupsOfSpec : ChangeSpec := { name := "fnExactGroupsOf", fn := fun _ => fun
  | [d1, d2] => { results := [.lit (.bool true)], args := [d1, d2] }
  | _ => none }
def fnExactGroupsOfRow : OpenClaim := { program := "ytdplmjlbkaipiaa", sum := "9fda6b6fe6b12fde45fe659b780feea7a53c698006036252310332d8600784d5", func := "loop.example/g00769/laws.FnExactGroupsOf", spec := "fnExactGroupsOf", unfollowed := true, recurses := true, apart := false }
def FnExactGroupsOfSaid : Prop := fnExactGroupsOfRow.holds Try.pinned (OpenSpec.ofChange fnExactGroupsOfSpec)

/-- ITS FALSE NEIGHBOUR: 'it returns false'. Refute it at one input. -/
def fnExactGroupsOfWrong : ChangeSpec := { name := "fnExactGroupsOf", fn := fun _ => fun
  | [d1, d2] => { results := [.lit (.bool false)], args := [d1, d2] }
  | _ => none }
def FnExactGroupsOfWrongFalsely : Prop := fnExactGroupsOfRow.holds Try.pinned (OpenSpec.ofChange fnExactGroupsOfWrong)

/-- 'laws.FnExactMerge': WHATEVER THE INPUT: true; the input reads as it did. -/
def fnExactMergeSpec : ChangeSpec := { name := "fnExactMerge", fn := fun _ => fun
  | [d1, d2] => { results := [.lit (.bool true)], args := [d1, d2] }
  | _ => none }
def fnExactMergeRow : OpenClaim := { program := "ytdplmjlbkaipiaa", sum := "9fda6b6fe6b12fde45fe659b780feea7a53c698006036252310332d8600784d5", func := "loop.example/g00769/laws.FnExactMerge", spec := "fnExactMerge", unfollowed := true, recurses := true, apart := false }
def FnExactMergeSaid : Prop := fnExactMergeRow.holds Try.pinned (OpenSpec.ofChange fnExactMergeSpec)

/-- ITS FALSE NEIGHBOUR: 'it returns false'. Refute it at one input. -/
def fnExactMergeWrong : ChangeSpec := { name := "fnExactMerge", fn := fun _ => fun
  | [d1, d2] => { results := [.lit (.bool false)], args := [d1, d2] }
  | _ => none }
def FnExactMergeWrongFalsely : Prop := fnExactMergeRow.holds Try.pinned (OpenSpec.ofChange fnExactMergeWrong)

/-- 'laws.FnGroups': WHATEVER THE INPUT: true; the input reads as it did. -/
def fnGroupsSpec : ChangeSpec := { name := "fnGroups", fn := fun _ => fun
  | [d] => { results := [.lit (.bool true)], args := [d] }
  | _ => none }
def fnGroupsRow : OpenClaim := { program := "ytdplmjlbkaipiaa", sum := "9fda6b6fe6b12fde45fe659b780feea7a53c698006036252310332d8600784d5", func := "loop.example/g00769/laws.FnGroups", spec := "fnGroups", unfollowed := true, recurses := true, apart := false }
def FnGroupsSaid : Prop := fnGroupsRow.holds Try.pinned (OpenSpec.ofChange fnGroupsSpec)

/-- ITS FALSE NEIGHBOUR: 'it returns false'. Refute it at one input. -/
def fnGroupsWrong : ChangeSpec := { name := "fnGroups", fn := fun _ => fun
  | [d] => { results := [.lit (.bool false)], args := [d] }
  | _ => none }
def FnGroupsWrongFalsely : Prop := fnGroupsRow.holds Try.pinned (OpenSpec.ofChange fnGroupsWrong)

/- THE SECOND FORM. 'bulk': how many values and letters a reading holds, each counted each time it is reached (what is shared counts as often as it is met; a slice's spare places count too). A statement '..UptoSaid' is the law's where the arguments, and the package variables that the reading takes, are together of bulk at most 1048576: NARROWER than '..Said'. Prove '..Said' where nothing that the law and all that it calls make is longer than what came in: it says more and counts as full. Else prove '..UptoSaid'. A law counts once. -/
mutual
def uptoBulk {H : Type} : DataW H → Nat
  | .lit (.string bytes) => bytes.length + 1
  | .lit _ => 1
  | .nil => 1
  | .ptr d => uptoBulk d + 1
  | .slice elems spare => uptoBulkAll elems + uptoBulkAll spare + 1
  | .agg parts => uptoBulkAll parts + 1
  | .iface _ d => uptoBulk d + 1
  | .map entries => uptoBulkEntries entries + 1
  | .held _ => 1
def uptoBulkAll {H : Type} : List (DataW H) → Nat
  | [] => 0
  | d :: r => uptoBulk d + uptoBulkAll r
def uptoBulkEntries {H : Type} : List (Lit × DataW H) → Nat
  | [] => 0
  | x :: r => uptoBulkEntry x + uptoBulkEntries r
def uptoBulkEntry {H : Type} : Lit × DataW H → Nat
  | (.string bytes, d) => bytes.length + uptoBulk d + 1
  | (_, d) => uptoBulk d + 1
 end
def uptoSmall : (H : Type) → List (DataW H) → Bool := fun _ ds => decide (uptoBulkAll ds ≤ 1048576)
def OpenSpec.upto (s : _root_.Go.ChangeSpec) : _root_.Go.OpenSpec := { _root_.Go.OpenSpec.ofChange s with cond := some uptoSmall }

/-- 'laws.FnExactHopsOk', WHERE WHAT IT READS IS OF BULK AT MOST 1048576: true; the input reads as it did. -/
def fnExactHopsOkUptoRow : OpenClaim := { program := "ytdplmjlbkaipiaa", sum := "9fda6b6fe6b12fde45fe659b780feea7a53c698006036252310332d8600784d5", func := "loop.example/g00769/laws.FnExactHopsOk", spec := "fnExactHopsOk", apart := false, narrowed := true }
def FnExactHopsOkUptoSaid : Prop := fnExactHopsOkUptoRow.holds Try.pinned (OpenSpec.upto fnExactHopsOkSpec)

/-- 'laws.FnExactRouteOk', WHERE WHAT IT READS IS OF BULK AT MOST 1048576: true; the input reads as it did. -/
def fnExactRouteOkUptoRow : OpenClaim := { program := "ytdplmjlbkaipiaa", sum := "9fda6b6fe6b12fde45fe659b780feea7a53c698006036252310332d8600784d5", func := "loop.example/g00769/laws.FnExactRouteOk", spec := "fnExactRouteOk", apart := false, narrowed := true }
def FnExactRouteOkUptoSaid : Prop := fnExactRouteOkUptoRow.holds Try.pinned (OpenSpec.upto fnExactRouteOkSpec)

/-- 'laws.FnExactRoute', WHERE WHAT IT READS IS OF BULK AT MOST 1048576: true; the input reads as it did. -/
def fnExactRouteUptoRow : OpenClaim := { program := "ytdplmjlbkaipiaa", sum := "9fda6b6fe6b12fde45fe659b780feea7a53c698006036252310332d8600784d5", func := "loop.example/g00769/laws.FnExactRoute", spec := "fnExactRoute", apart := false, narrowed := true }
def FnExactRouteUptoSaid : Prop := fnExactRouteUptoRow.holds Try.pinned (OpenSpec.upto fnExactRouteSpec)

/-- 'laws.FnExactMust', WHERE WHAT IT READS IS OF BULK AT MOST 1048576: true; the input reads as it did. -/
def fnExactMustUptoRow : OpenClaim := { program := "ytdplmjlbkaipiaa", sum := "9fda6b6fe6b12fde45fe659b780feea7a53c698006036252310332d8600784d5", func := "loop.example/g00769/laws.FnExactMust", spec := "fnExactMust", apart := false, narrowed := true }
def FnExactMustUptoSaid : Prop := fnExactMustUptoRow.holds Try.pinned (OpenSpec.upto fnExactMustSpec)

/-- 'laws.FnExactTrusts', WHERE WHAT IT READS IS OF BULK AT MOST 1048576: true; the input reads as it did. -/
def fnExactTrustsUptoRow : OpenClaim := { program := "ytdplmjlbkaipiaa", sum := "9fda6b6fe6b12fde45fe659b780feea7a53c698006036252310332d8600784d5", func := "loop.example/g00769/laws.FnExactTrusts", spec := "fnExactTrusts", recurses := true, apart := false, narrowed := true }
def FnExactTrustsUptoSaid : Prop := fnExactTrustsUptoRow.holds Try.pinned (OpenSpec.upto fnExactTrustsSpec)

/-- 'laws.FnRoute', WHERE WHAT IT READS IS OF BULK AT MOST 1048576: true; the input reads as it did. -/
def fnRouteUptoRow : OpenClaim := { program := "ytdplmjlbkaipiaa", sum := "9fda6b6fe6b12fde45fe659b780feea7a53c698006036252310332d8600784d5", func := "loop.example/g00769/laws.FnRoute", spec := "fnRoute", recurses := true, apart := false, narrowed := true }
def FnRouteUptoSaid : Prop := fnRouteUptoRow.holds Try.pinned (OpenSpec.upto fnRouteSpec)

/-- 'laws.FnExactGroupsOk', WHERE WHAT IT READS IS OF BULK AT MOST 1048576: true; the input reads as it did. -/
def fnExactGroupsOkUptoRow : OpenClaim := { program := "ytdplmjlbkaipiaa", sum := "9fda6b6fe6b12fde45fe659b780feea7a53c698006036252310332d8600784d5", func := "loop.example/g00769/laws.FnExactGroupsOk", spec := "fnExactGroupsOk", unfollowed := true, recurses := true, apart := false, narrowed := true }
def FnExactGroupsOkUptoSaid : Prop := fnExactGroupsOkUptoRow.holds Try.pinned (OpenSpec.upto fnExactGroupsOkSpec)

/-- 'laws.FnExactLoops', WHERE WHAT IT READS IS OF BULK AT MOST 1048576: true; the input reads as it did. -/
def fnExactLoopsUptoRow : OpenClaim := { program := "ytdplmjlbkaipiaa", sum := "9fda6b6fe6b12fde45fe659b780feea7a53c698006036252310332d8600784d5", func := "loop.example/g00769/laws.FnExactLoops", spec := "fnExactLoops", unfollowed := true, recurses := true, apart := false, narrowed := true }
def FnExactLoopsUptoSaid : Prop := fnExactLoopsUptoRow.holds Try.pinned (OpenSpec.upto fnExactLoopsSpec)

/-- 'laws.FnExactUsersOf', WHERE WHAT IT READS IS OF BULK AT MOST 1048576: true; the input reads as it did. -/
def fnExactUsersOfUptoRow : OpenClaim := { program := "ytdplmjlbkaipiaa", sum := "9fda6b6fe6b12fde45fe659b780feea7a53c698006036252310332d8600784d5", func := "loop.example/g00769/laws.FnExactUsersOf", spec := "fnExactUsersOf", unfollowed := true, recurses := true, apart := false, narrowed := true }
def FnExactUsersOfUptoSaid : Prop := fnExactUsersOfUptoRow.holds Try.pinned (OpenSpec.upto fnExactUsersOfSpec)

/-- 'laws.FnExactGroupsOf', WHERE WHAT IT READS IS OF BULK AT MOST 1048576: true; the input reads as it did. -/
def fnExactGroupsOfUptoRow : OpenClaim := { program := "ytdplmjlbkaipiaa", sum := "9fda6b6fe6b12fde45fe659b780feea7a53c698006036252310332d8600784d5", func := "loop.example/g00769/laws.FnExactGroupsOf", spec := "fnExactGroupsOf", unfollowed := true, recurses := true, apart := false, narrowed := true }
def FnExactGroupsOfUptoSaid : Prop := fnExactGroupsOfUptoRow.holds Try.pinned (OpenSpec.upto fnExactGroupsOfSpec)

/-- 'laws.FnExactMerge', WHERE WHAT IT READS IS OF BULK AT MOST 1048576: true; the input reads as it did. -/
def fnExactMergeUptoRow : OpenClaim := { program := "ytdplmjlbkaipiaa", sum := "9fda6b6fe6b12fde45fe659b780feea7a53c698006036252310332d8600784d5", func := "loop.example/g00769/laws.FnExactMerge", spec := "fnExactMerge", unfollowed := true, recurses := true, apart := false, narrowed := true }
def FnExactMergeUptoSaid : Prop := fnExactMergeUptoRow.holds Try.pinned (OpenSpec.upto fnExactMergeSpec)

/-- 'laws.FnGroups', WHERE WHAT IT READS IS OF BULK AT MOST 1048576: true; the input reads as it did. -/
def fnGroupsUptoRow : OpenClaim := { program := "ytdplmjlbkaipiaa", sum := "9fda6b6fe6b12fde45fe659b780feea7a53c698006036252310332d8600784d5", func := "loop.example/g00769/laws.FnGroups", spec := "fnGroups", unfollowed := true, recurses := true, apart := false, narrowed := true }
def FnGroupsUptoSaid : Prop := fnGroupsUptoRow.holds Try.pinned (OpenSpec.upto fnGroupsSpec)

end Rows
end Go.Proofs.Ytdplmjlbkaipiaa
