/-
  No cell of these rows narrows 'for every input' (looked for: loops, veiled, ifaces, maps, wideKeys, modest, calm, conditions, laid).
  DERIVED. THE GIVEN ROWS OF THIS SEAT. 6 by the template 'for every input the law returns true; each argument reads behind the call as it read before'; 0 by the template 'total and deterministic' (their statements: YtceilcdhflcbpaaTotals.lean).
  GIVEN WITH THE SEED: the statements are not yours to turn. If you find one false, say at which input.
  Laid BY PROGRAM, IN A SANDBOX (cutbox-rows.mjs): the forced cells as the released guide's own fill.sh prints them over the translation 3d09a14a33d89d3c… (all of the seat's roots in one cut). By AI agents, Wed Nov 11 2026. No macro, syntax, notation, axiom, sorry.
-/
import Derived.Test.YtceilcdhflcbpaaChecked
import GoSem.Claim
import GoSem.ClaimJoined
import GoSem.ClaimMapViews
import Derived.JoinedTies
import Derived.KernelRfl
namespace Go.Proofs.Ytceilcdhflcbpaa
/- THE CELL 'sum', in the pinned program and in every row, IS THE sha256 OF THE DUMP (.gsa) THAT YtceilcdhflcbpaaProg.lean LOADS. Nothing in Lean hashes anything: it is a label: what it is worth is what the hold of that sum in a sandbox is worth. -/
noncomputable def Try.pinned : Pinned := { name := "ytceilcdhflcbpaa", sum := "3d09a14a33d89d3cc3cd7637658199b6ae5d013f3eadec433018de21c7ef44f3", checked := Try.checked }
namespace Rows
def none {H : Type} : Left H := { results := [], args := [] }

/-- 'laws.FnExactHavesOk': WHATEVER THE INPUT: true; the input reads as it did. -/
def fnExactHavesOkSpec : ChangeSpec := { name := "fnExactHavesOk", fn := fun _ => fun
  | [d] => { results := [.lit (.bool true)], args := [d] }
  | _ => none }
def fnExactHavesOkRow : OpenClaim := { program := "ytceilcdhflcbpaa", sum := "3d09a14a33d89d3cc3cd7637658199b6ae5d013f3eadec433018de21c7ef44f3", func := "loop.example/g00769/laws.FnExactHavesOk", spec := "fnExactHavesOk", unfollowed := true, recurses := true, apart := false }
def FnExactHavesOkSaid : Prop := fnExactHavesOkRow.holds Try.pinned (OpenSpec.ofChange fnExactHavesOkSpec)

/-- ITS FALSE NEIGHBOUR: 'it returns false'. Refute it at one input. -/
def fnExactHavesOkWrong : ChangeSpec := { name := "fnExactHavesOk", fn := fun _ => fun
  | [d] => { results := [.lit (.bool false)], args := [d] }
  | _ => none }
def FnExactHavesOkWrongFalsely : Prop := fnExactHavesOkRow.holds Try.pinned (OpenSpec.ofChange fnExactHavesOkWrong)

/-- 'laws.FnExactBest': WHATEVER THE INPUT: true; the input reads as it did. -/
def fnExactBestSpec : ChangeSpec := { name := "fnExactBest", fn := fun _ => fun
  | [d1, d2, d3, d4] => { results := [.lit (.bool true)], args := [d1, d2, d3, d4] }
  | _ => none }
def fnExactBestRow : OpenClaim := { program := "ytceilcdhflcbpaa", sum := "3d09a14a33d89d3cc3cd7637658199b6ae5d013f3eadec433018de21c7ef44f3", func := "loop.example/g00769/laws.FnExactBest", spec := "fnExactBest", unfollowed := true, recurses := true, apart := false }
def FnExactBestSaid : Prop := fnExactBestRow.holds Try.pinned (OpenSpec.ofChange fnExactBestSpec)

/-- ITS FALSE NEIGHBOUR: 'it returns false'. Refute it at one input. -/
def fnExactBestWrong : ChangeSpec := { name := "fnExactBest", fn := fun _ => fun
  | [d1, d2, d3, d4] => { results := [.lit (.bool false)], args := [d1, d2, d3, d4] }
  | _ => none }
def FnExactBestWrongFalsely : Prop := fnExactBestRow.holds Try.pinned (OpenSpec.ofChange fnExactBestWrong)

/-- 'laws.FnExactPurge': WHATEVER THE INPUT: true; the input reads as it did. -/
def fnExactPurgeSpec : ChangeSpec := { name := "fnExactPurge", fn := fun _ => fun
  | [d1, d2] => { results := [.lit (.bool true)], args := [d1, d2] }
  | _ => none }
def fnExactPurgeRow : OpenClaim := { program := "ytceilcdhflcbpaa", sum := "3d09a14a33d89d3cc3cd7637658199b6ae5d013f3eadec433018de21c7ef44f3", func := "loop.example/g00769/laws.FnExactPurge", spec := "fnExactPurge", unfollowed := true, recurses := true, apart := false }
def FnExactPurgeSaid : Prop := fnExactPurgeRow.holds Try.pinned (OpenSpec.ofChange fnExactPurgeSpec)

/-- ITS FALSE NEIGHBOUR: 'it returns false'. Refute it at one input. -/
def fnExactPurgeWrong : ChangeSpec := { name := "fnExactPurge", fn := fun _ => fun
  | [d1, d2] => { results := [.lit (.bool false)], args := [d1, d2] }
  | _ => none }
def FnExactPurgeWrongFalsely : Prop := fnExactPurgeRow.holds Try.pinned (OpenSpec.ofChange fnExactPurgeWrong)

/-- 'laws.FnExactHavePut': WHATEVER THE INPUT: true; the input reads as it did. -/
def fnExactHavePutSpec : ChangeSpec := { name := "fnExactHavePut", fn := fun _ => fun
  | [d1, d2] => { results := [.lit (.bool true)], args := [d1, d2] }
  | _ => none }
def fnExactHavePutRow : OpenClaim := { program := "ytceilcdhflcbpaa", sum := "3d09a14a33d89d3cc3cd7637658199b6ae5d013f3eadec433018de21c7ef44f3", func := "loop.example/g00769/laws.FnExactHavePut", spec := "fnExactHavePut", unfollowed := true, recurses := true, apart := false }
def FnExactHavePutSaid : Prop := fnExactHavePutRow.holds Try.pinned (OpenSpec.ofChange fnExactHavePutSpec)

/-- ITS FALSE NEIGHBOUR: 'it returns false'. Refute it at one input. -/
def fnExactHavePutWrong : ChangeSpec := { name := "fnExactHavePut", fn := fun _ => fun
  | [d1, d2] => { results := [.lit (.bool false)], args := [d1, d2] }
  | _ => none }
def FnExactHavePutWrongFalsely : Prop := fnExactHavePutRow.holds Try.pinned (OpenSpec.ofChange fnExactHavePutWrong)

/-- 'laws.FnHaves': WHATEVER THE INPUT: true; the input reads as it did. -/
def fnHavesSpec : ChangeSpec := { name := "fnHaves", fn := fun _ => fun
  | [d] => { results := [.lit (.bool true)], args := [d] }
  | _ => none }
def fnHavesRow : OpenClaim := { program := "ytceilcdhflcbpaa", sum := "3d09a14a33d89d3cc3cd7637658199b6ae5d013f3eadec433018de21c7ef44f3", func := "loop.example/g00769/laws.FnHaves", spec := "fnHaves", unfollowed := true, recurses := true, apart := false }
def FnHavesSaid : Prop := fnHavesRow.holds Try.pinned (OpenSpec.ofChange fnHavesSpec)

/-- ITS FALSE NEIGHBOUR: 'it returns false'. Refute it at one input. -/
def fnHavesWrong : ChangeSpec := { name := "fnHaves", fn := fun _ => fun
  | [d] => { results := [.lit (.bool false)], args := [d] }
  | _ => none }
def FnHavesWrongFalsely : Prop := fnHavesRow.holds Try.pinned (OpenSpec.ofChange fnHavesWrong)

/-- 'laws.FnRules': WHATEVER THE INPUT: true; the input reads as it did. -/
def fnRulesSpec : ChangeSpec := { name := "fnRules", fn := fun _ => fun
  | [d] => { results := [.lit (.bool true)], args := [d] }
  | _ => none }
def fnRulesRow : OpenClaim := { program := "ytceilcdhflcbpaa", sum := "3d09a14a33d89d3cc3cd7637658199b6ae5d013f3eadec433018de21c7ef44f3", func := "loop.example/g00769/laws.FnRules", spec := "fnRules", unfollowed := true, recurses := true, apart := false }
def FnRulesSaid : Prop := fnRulesRow.holds Try.pinned (OpenSpec.ofChange fnRulesSpec)

/-- ITS FALSE NEIGHBOUR: 'it returns false'. Refute it at one input. -/
def fnRulesWrong : ChangeSpec := { name := "fnRules", fn := fun _ => fun
  | [d] => { results := [.lit (.bool false)], args := [d] }
  | _ => none }
def FnRulesWrongFalsely : Prop := fnRulesRow.holds Try.pinned (OpenSpec.ofChange fnRulesWrong)

/- THE SECOND FORM. 'bulk': how many values and letters a reading holds, each counted each time it is reached (what is shared counts as often as it is met; a slice's spare places count too). A statement '..UptoSaid' is the law's where the arguments, and the package variables that the reading takes, are together of bulk at most 1048576: NARROWER than '..Said'. Prove '..Said' where nothing that the law and all that it calls make is longer than what came in: it says more and counts as full. Else prove '..UptoSaid'. A law counts once. -/
mutual
def uptoBulk {H : Type} : DataW H → Nat
  | .lit (.string bytes) => bytes.length + 1
  | .lit _ => 1
  | .nil => 1
  | .ptr d => uptoBulk d + 1
  | .slice elems spare => uptoBulkAll elems + uptoBulkAll spare + 1
  | .agg parts => uptoBulkAll parts + 1
  | .iface _ d => uptoBulk d + 1
  | .map entries => uptoBulkEntries entries + 1
  | .held _ => 1
def uptoBulkAll {H : Type} : List (DataW H) → Nat
  | [] => 0
  | d :: r => uptoBulk d + uptoBulkAll r
def uptoBulkEntries {H : Type} : List (Lit × DataW H) → Nat
  | [] => 0
  | x :: r => uptoBulkEntry x + uptoBulkEntries r
def uptoBulkEntry {H : Type} : Lit × DataW H → Nat
  | (.string bytes, d) => bytes.length + uptoBulk d + 1
  | (_, d) => uptoBulk d + 1
 end
def uptoSmall : (H : Type) → List (DataW H) → Bool := fun _ ds => decide (uptoBulkAll ds ≤ 1048576)
def OpenSpec.upto (s : _root_.Go.ChangeSpec) : _root_.Go.OpenSpec := { _root_.Go.OpenSpec.ofChange s with cond := some uptoSmall }

/-- 'laws.FnExactHavesOk', WHERE WHAT IT READS IS OF BULK AT MOST 1048576: true; the input reads as it did. -/
def fnExactHavesOkUptoRow : OpenClaim := { program := "ytceilcdhflcbpaa", sum := "3d09a14a33d89d3cc3cd7637658199b6ae5d013f3eadec433018de21c7ef44f3", func := "loop.example/g00769/laws.FnExactHavesOk", spec := "fnExactHavesOk", unfollowed := true, recurses := true, apart := false, narrowed := true }
def FnExactHavesOkUptoSaid : Prop := fnExactHavesOkUptoRow.holds Try.pinned (OpenSpec.upto fnExactHavesOkSpec)

/-- 'laws.FnExactBest', WHERE WHAT IT READS IS OF BULK AT MOST 1048576: true; the input reads as it did. -/
def fnExactBestUptoRow : OpenClaim := { program := "ytceilcdhflcbpaa", sum := "3d09a14a33d89d3cc3cd7637658199b6ae5d013f3eadec433018de21c7ef44f3", func := "loop.example/g00769/laws.FnExactBest", spec := "fnExactBest", unfollowed := true, recurses := true, apart := false, narrowed := true }
def FnExactBestUptoSaid : Prop := fnExactBestUptoRow.holds Try.pinned (OpenSpec.upto fnExactBestSpec)

/-- 'laws.FnExactPurge', WHERE WHAT IT READS IS OF BULK AT MOST 1048576: true; the input reads as it did. -/
def fnExactPurgeUptoRow : OpenClaim := { program := "ytceilcdhflcbpaa", sum := "3d09a14a33d89d3cc3cd7637658199b6ae5d013f3eadec433018de21c7ef44f3", func := "loop.example/g00769/laws.FnExactPurge", spec := "fnExactPurge", unfollowed := true, recurses := true, apart := false, narrowed := true }
def FnExactPurgeUptoSaid : Prop := fnExactPurgeUptoRow.holds Try.pinned (OpenSpec.upto fnExactPurgeSpec)

/-- 'laws.FnExactHavePut', WHERE WHAT IT READS IS OF BULK AT MOST 1048576: true; the input reads as it did. -/
def fnExactHavePutUptoRow : OpenClaim := { program := "ytceilcdhflcbpaa", sum := "3d09a14a33d89d3cc3cd7637658199b6ae5d013f3eadec433018de21c7ef44f3", func := "loop.example/g00769/laws.FnExactHavePut", spec := "fnExactHavePut", unfollowed := true, recurses := true, apart := false, narrowed := true }
def FnExactHavePutUptoSaid : Prop := fnExactHavePutUptoRow.holds Try.pinned (OpenSpec.upto fnExactHavePutSpec)

/-- 'laws.FnHaves', WHERE WHAT IT READS IS OF BULK AT MOST 1048576: true; the input reads as it did. -/
def fnHavesUptoRow : OpenClaim := { program := "ytceilcdhflcbpaa", sum := "3d09a14a33d89d3cc3cd7637658199b6ae5d013f3eadec433018de21c7ef44f3", func := "loop.example/g00769/laws.FnHaves", spec := "fnHaves", unfollowed := true, recurses := true, apart := false, narrowed := true }
def FnHavesUptoSaid : Prop := fnHavesUptoRow.holds Try.pinned (OpenSpec.upto fnHavesSpec)

/-- 'laws.FnRules', WHERE WHAT IT READS IS OF BULK AT MOST 1048576: true; the input reads as it did. -/
def fnRulesUptoRow : OpenClaim := { program := "ytceilcdhflcbpaa", sum := "3d09a14a33d89d3cc3cd7637658199b6ae5d013f3eadec433018de21c7ef44f3", func := "loop.example/g00769/laws.FnRules", spec := "fnRules", unfollowed := true, recurses := true, apart := false, narrowed := true }
def FnRulesUptoSaid : Prop := fnRulesUptoRow.holds Try.pinned (OpenSpec.upto fnRulesSpec)

end Rows
end Go.Proofs.Ytceilcdhflcbpaa
