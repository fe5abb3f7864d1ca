/-
  No cell of these rows narrows 'for every input' (looked for: loops, veiled, ifaces, maps, wideKeys, modest, calm, conditions, laid).
  DERIVED. THE GIVEN ROWS OF THIS SEAT. 4 by the template 'for every input the law returns true; each argument reads behind the call as it read before'; 0 by the template 'total and deterministic' (their statements: YtglboiahgpfjdaaGreatTotals.lean).
  GIVEN WITH THE SEED: the statements are not yours to turn. If you find one false, say at which input.
  Laid BY PROGRAM, IN A SANDBOX (cutbox-rows.mjs): the forced cells as the released guide's own fill.sh prints them over the translation 2cf5cfe7a5d5248a… (all of the seat's roots in one cut). By AI agents, Wed Nov 11 2026. No macro, syntax, notation, axiom, sorry.
-/
import Derived.Test.YtglboiahgpfjdaaGreatChecked
import GoSem.Claim
import GoSem.ClaimJoined
import GoSem.ClaimMapViews
import Derived.JoinedTies
import Derived.KernelRfl
namespace Go.Proofs.YtglboiahgpfjdaaGreat
/- THE CELL 'sum', in the pinned program and in every row, IS THE sha256 OF THE DUMP (.gsa) THAT YtglboiahgpfjdaaGreatProg.lean LOADS. Nothing in Lean hashes anything: it is a label: what it is worth is what the hold of that sum in a sandbox is worth. -/
noncomputable def Tryz.pinned : Pinned := { name := "ytglboiahgpfjdaagreat", sum := "2cf5cfe7a5d5248a9e03e0f8dd8144cdaef92491e60ba3f1c798810d074ad3ae", checked := Tryz.checked }
namespace Rows
def none {H : Type} : Left H := { results := [], args := [] }

/-- 'laws.FnExactCountAll': WHATEVER THE INPUT: true; the input reads as it did. -/
def fnExactCountAllSpec : ChangeSpec := { name := "fnExactCountAll", fn := fun _ => fun
  | [d] => { results := [.lit (.bool true)], args := [d] }
  | _ => none }
def fnExactCountAllRow : OpenClaim := { program := "ytglboiahgpfjdaagreat", sum := "2cf5cfe7a5d5248a9e03e0f8dd8144cdaef92491e60ba3f1c798810d074ad3ae", func := "loop.example/g00769/laws.FnExactCountAll", spec := "fnExactCountAll", unfollowed := true, recurses := true, apart := false }
def FnExactCountAllSaid : Prop := fnExactCountAllRow.holds Tryz.pinned (OpenSpec.ofChange fnExactCountAllSpec)

/-- ITS FALSE NEIGHBOUR: 'it returns false'. Refute it at one input. -/
def fnExactCountAllWrong : ChangeSpec := { name := "fnExactCountAll", fn := fun _ => fun
  | [d] => { results := [.lit (.bool false)], args := [d] }
  | _ => none }
def FnExactCountAllWrongFalsely : Prop := fnExactCountAllRow.holds Tryz.pinned (OpenSpec.ofChange fnExactCountAllWrong)

/-- 'laws.FnExactStory': WHATEVER THE INPUT: true; the input reads as it did. -/
def fnExactStorySpec : ChangeSpec := { name := "fnExactStory", fn := fun _ => fun
  | [d] => { results := [.lit (.bool true)], args := [d] }
  | _ => none }
def fnExactStoryRow : OpenClaim := { program := "ytglboiahgpfjdaagreat", sum := "2cf5cfe7a5d5248a9e03e0f8dd8144cdaef92491e60ba3f1c798810d074ad3ae", func := "loop.example/g00769/laws.FnExactStory", spec := "fnExactStory", unfollowed := true, recurses := true, apart := false }
def FnExactStorySaid : Prop := fnExactStoryRow.holds Tryz.pinned (OpenSpec.ofChange fnExactStorySpec)

/-- ITS FALSE NEIGHBOUR: 'it returns false'. Refute it at one input. -/
def fnExactStoryWrong : ChangeSpec := { name := "fnExactStory", fn := fun _ => fun
  | [d] => { results := [.lit (.bool false)], args := [d] }
  | _ => none }
def FnExactStoryWrongFalsely : Prop := fnExactStoryRow.holds Tryz.pinned (OpenSpec.ofChange fnExactStoryWrong)

/-- 'laws.FnExactBusiest': WHATEVER THE INPUT: true; the input reads as it did. -/
def fnExactBusiestSpec : ChangeSpec := { name := "fnExactBusiest", fn := fun _ => fun
  | [d] => { results := [.lit (.bool true)], args := [d] }
  | _ => none }
def fnExactBusiestRow : OpenClaim := { program := "ytglboiahgpfjdaagreat", sum := "2cf5cfe7a5d5248a9e03e0f8dd8144cdaef92491e60ba3f1c798810d074ad3ae", func := "loop.example/g00769/laws.FnExactBusiest", spec := "fnExactBusiest", unfollowed := true, recurses := true, apart := false }
def FnExactBusiestSaid : Prop := fnExactBusiestRow.holds Tryz.pinned (OpenSpec.ofChange fnExactBusiestSpec)

/-- ITS FALSE NEIGHBOUR: 'it returns false'. Refute it at one input. -/
def fnExactBusiestWrong : ChangeSpec := { name := "fnExactBusiest", fn := fun _ => fun
  | [d] => { results := [.lit (.bool false)], args := [d] }
  | _ => none }
def FnExactBusiestWrongFalsely : Prop := fnExactBusiestRow.holds Tryz.pinned (OpenSpec.ofChange fnExactBusiestWrong)

/-- 'laws.FnStory': WHATEVER THE INPUT: true; the input reads as it did. -/
def fnStorySpec : ChangeSpec := { name := "fnStory", fn := fun _ => fun
  | [d] => { results := [.lit (.bool true)], args := [d] }
  | _ => none }
def fnStoryRow : OpenClaim := { program := "ytglboiahgpfjdaagreat", sum := "2cf5cfe7a5d5248a9e03e0f8dd8144cdaef92491e60ba3f1c798810d074ad3ae", func := "loop.example/g00769/laws.FnStory", spec := "fnStory", unfollowed := true, recurses := true, apart := false }
def FnStorySaid : Prop := fnStoryRow.holds Tryz.pinned (OpenSpec.ofChange fnStorySpec)

/-- ITS FALSE NEIGHBOUR: 'it returns false'. Refute it at one input. -/
def fnStoryWrong : ChangeSpec := { name := "fnStory", fn := fun _ => fun
  | [d] => { results := [.lit (.bool false)], args := [d] }
  | _ => none }
def FnStoryWrongFalsely : Prop := fnStoryRow.holds Tryz.pinned (OpenSpec.ofChange fnStoryWrong)

/- THE SECOND FORM. 'bulk': how many values and letters a reading holds, each counted each time it is reached (what is shared counts as often as it is met; a slice's spare places count too). A statement '..UptoSaid' is the law's where the arguments, and the package variables that the reading takes, are together of bulk at most 1048576: NARROWER than '..Said'. Prove '..Said' where nothing that the law and all that it calls make is longer than what came in: it says more and counts as full. Else prove '..UptoSaid'. A law counts once. -/
mutual
def uptoBulk {H : Type} : DataW H → Nat
  | .lit (.string bytes) => bytes.length + 1
  | .lit _ => 1
  | .nil => 1
  | .ptr d => uptoBulk d + 1
  | .slice elems spare => uptoBulkAll elems + uptoBulkAll spare + 1
  | .agg parts => uptoBulkAll parts + 1
  | .iface _ d => uptoBulk d + 1
  | .map entries => uptoBulkEntries entries + 1
  | .held _ => 1
def uptoBulkAll {H : Type} : List (DataW H) → Nat
  | [] => 0
  | d :: r => uptoBulk d + uptoBulkAll r
def uptoBulkEntries {H : Type} : List (Lit × DataW H) → Nat
  | [] => 0
  | x :: r => uptoBulkEntry x + uptoBulkEntries r
def uptoBulkEntry {H : Type} : Lit × DataW H → Nat
  | (.string bytes, d) => bytes.length + uptoBulk d + 1
  | (_, d) => uptoBulk d + 1
 end
def uptoSmall : (H : Type) → List (DataW H) → Bool := fun _ ds => decide (uptoBulkAll ds ≤ 1048576)
def OpenSpec.upto (s : _root_.Go.ChangeSpec) : _root_.Go.OpenSpec := { _root_.Go.OpenSpec.ofChange s with cond := some uptoSmall }

/-- 'laws.FnExactCountAll', WHERE WHAT IT READS IS OF BULK AT MOST 1048576: true; the input reads as it did. -/
def fnExactCountAllUptoRow : OpenClaim := { program := "ytglboiahgpfjdaagreat", sum := "2cf5cfe7a5d5248a9e03e0f8dd8144cdaef92491e60ba3f1c798810d074ad3ae", func := "loop.example/g00769/laws.FnExactCountAll", spec := "fnExactCountAll", unfollowed := true, recurses := true, apart := false, narrowed := true }
def FnExactCountAllUptoSaid : Prop := fnExactCountAllUptoRow.holds Tryz.pinned (OpenSpec.upto fnExactCountAllSpec)

/-- 'laws.FnExactStory', WHERE WHAT IT READS IS OF BULK AT MOST 1048576: true; the input reads as it did. -/
def fnExactStoryUptoRow : OpenClaim := { program := "ytglboiahgpfjdaagreat", sum := "2cf5cfe7a5d5248a9e03e0f8dd8144cdaef92491e60ba3f1c798810d074ad3ae", func := "loop.example/g00769/laws.FnExactStory", spec := "fnExactStory", unfollowed := true, recurses := true, apart := false, narrowed := true }
def FnExactStoryUptoSaid : Prop := fnExactStoryUptoRow.holds Tryz.pinned (OpenSpec.upto fnExactStorySpec)

/-- 'laws.FnExactBusiest', WHERE WHAT IT READS IS OF BULK AT MOST 1048576: true; the input reads as it did. -/
def fnExactBusiestUptoRow : OpenClaim := { program := "ytglboiahgpfjdaagreat", sum := "2cf5cfe7a5d5248a9e03e0f8dd8144cdaef92491e60ba3f1c798810d074ad3ae", func := "loop.example/g00769/laws.FnExactBusiest", spec := "fnExactBusiest", unfollowed := true, recurses := true, apart := false, narrowed := true }
def FnExactBusiestUptoSaid : Prop := fnExactBusiestUptoRow.holds Tryz.pinned (OpenSpec.upto fnExactBusiestSpec)

/-- 'laws.FnStory', WHERE WHAT IT READS IS OF BULK AT MOST 1048576: true; the input reads as it did. -/
def fnStoryUptoRow : OpenClaim := { program := "ytglboiahgpfjdaagreat", sum := "2cf5cfe7a5d5248a9e03e0f8dd8144cdaef92491e60ba3f1c798810d074ad3ae", func := "loop.example/g00769/laws.FnStory", spec := "fnStory", unfollowed := true, recurses := true, apart := false, narrowed := true }
def FnStoryUptoSaid : Prop := fnStoryUptoRow.holds Tryz.pinned (OpenSpec.upto fnStorySpec)

end Rows
end Go.Proofs.YtglboiahgpfjdaaGreat
