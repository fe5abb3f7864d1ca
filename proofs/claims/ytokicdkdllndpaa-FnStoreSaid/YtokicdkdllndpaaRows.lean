/-
  No cell of these rows narrows 'for every input' (looked for: loops, veiled, ifaces, maps, wideKeys, modest, calm, conditions, laid).
  DERIVED. THE GIVEN ROWS OF THIS SEAT. 10 by the template 'for every input the law returns true; each argument reads behind the call as it read before'; 0 by the template 'total and deterministic' (their statements: YtokicdkdllndpaaTotals.lean).
  GIVEN WITH THE SEED: the statements are not yours to turn. If you find one false, say at which input.
  Laid BY PROGRAM, IN A SANDBOX (cutbox-rows.mjs): the forced cells as the released guide's own fill.sh prints them over the translation fe829d4d7660b732… (all of the seat's roots in one cut). By AI agents, Wed Nov 11 2026. No macro, syntax, notation, axiom, sorry.
-/
import Derived.Test.YtokicdkdllndpaaChecked
import GoSem.Claim
import GoSem.ClaimJoined
import GoSem.ClaimMapViews
import Derived.JoinedTies
import Derived.KernelRfl
namespace Go.Proofs.Ytokicdkdllndpaa
/- THE CELL 'sum', in the pinned program and in every row, IS THE sha256 OF THE DUMP (.gsa) THAT YtokicdkdllndpaaProg.lean LOADS. Nothing in Lean hashes anything: it is a label: what it is worth is what the hold of that sum in a sandbox is worth. -/
noncomputable def Try.pinned : Pinned := { name := "ytokicdkdllndpaa", sum := "fe829d4d7660b732e071f47eff99c756a0cd6122a39d86970e40747177166cef", checked := Try.checked }
namespace Rows
def none {H : Type} : Left H := { results := [], args := [] }

/-- 'laws.FnExactBaseOk': WHATEVER THE INPUT: true; the input reads as it did. -/
def fnExactBaseOkSpec : ChangeSpec := { name := "fnExactBaseOk", fn := fun _ => fun
  | [d] => { results := [.lit (.bool true)], args := [d] }
  | _ => none }
def fnExactBaseOkRow : OpenClaim := { program := "ytokicdkdllndpaa", sum := "fe829d4d7660b732e071f47eff99c756a0cd6122a39d86970e40747177166cef", func := "loop.example/g00769/laws.FnExactBaseOk", spec := "fnExactBaseOk", apart := false }
def FnExactBaseOkSaid : Prop := fnExactBaseOkRow.holds Try.pinned (OpenSpec.ofChange fnExactBaseOkSpec)

/-- ITS FALSE NEIGHBOUR: 'it returns false'. Refute it at one input. -/
def fnExactBaseOkWrong : ChangeSpec := { name := "fnExactBaseOk", fn := fun _ => fun
  | [d] => { results := [.lit (.bool false)], args := [d] }
  | _ => none }
def FnExactBaseOkWrongFalsely : Prop := fnExactBaseOkRow.holds Try.pinned (OpenSpec.ofChange fnExactBaseOkWrong)

/-- 'laws.FnExactShowBase': WHATEVER THE INPUT: true; the input reads as it did. -/
def fnExactShowBaseSpec : ChangeSpec := { name := "fnExactShowBase", fn := fun _ => fun
  | [d] => { results := [.lit (.bool true)], args := [d] }
  | _ => none }
def fnExactShowBaseRow : OpenClaim := { program := "ytokicdkdllndpaa", sum := "fe829d4d7660b732e071f47eff99c756a0cd6122a39d86970e40747177166cef", func := "loop.example/g00769/laws.FnExactShowBase", spec := "fnExactShowBase", apart := false }
def FnExactShowBaseSaid : Prop := fnExactShowBaseRow.holds Try.pinned (OpenSpec.ofChange fnExactShowBaseSpec)

/-- ITS FALSE NEIGHBOUR: 'it returns false'. Refute it at one input. -/
def fnExactShowBaseWrong : ChangeSpec := { name := "fnExactShowBase", fn := fun _ => fun
  | [d] => { results := [.lit (.bool false)], args := [d] }
  | _ => none }
def FnExactShowBaseWrongFalsely : Prop := fnExactShowBaseRow.holds Try.pinned (OpenSpec.ofChange fnExactShowBaseWrong)

/-- 'laws.FnExactReadBase': WHATEVER THE INPUT: true; the input reads as it did. -/
def fnExactReadBaseSpec : ChangeSpec := { name := "fnExactReadBase", fn := fun _ => fun
  | [d] => { results := [.lit (.bool true)], args := [d] }
  | _ => none }
def fnExactReadBaseRow : OpenClaim := { program := "ytokicdkdllndpaa", sum := "fe829d4d7660b732e071f47eff99c756a0cd6122a39d86970e40747177166cef", func := "loop.example/g00769/laws.FnExactReadBase", spec := "fnExactReadBase", apart := false }
def FnExactReadBaseSaid : Prop := fnExactReadBaseRow.holds Try.pinned (OpenSpec.ofChange fnExactReadBaseSpec)

/-- ITS FALSE NEIGHBOUR: 'it returns false'. Refute it at one input. -/
def fnExactReadBaseWrong : ChangeSpec := { name := "fnExactReadBase", fn := fun _ => fun
  | [d] => { results := [.lit (.bool false)], args := [d] }
  | _ => none }
def FnExactReadBaseWrongFalsely : Prop := fnExactReadBaseRow.holds Try.pinned (OpenSpec.ofChange fnExactReadBaseWrong)

/-- 'laws.FnStoreText': WHATEVER THE INPUT: true; the input reads as it did. -/
def fnStoreTextSpec : ChangeSpec := { name := "fnStoreText", fn := fun _ => fun
  | [d] => { results := [.lit (.bool true)], args := [d] }
  | _ => none }
def fnStoreTextRow : OpenClaim := { program := "ytokicdkdllndpaa", sum := "fe829d4d7660b732e071f47eff99c756a0cd6122a39d86970e40747177166cef", func := "loop.example/g00769/laws.FnStoreText", spec := "fnStoreText", apart := false }
def FnStoreTextSaid : Prop := fnStoreTextRow.holds Try.pinned (OpenSpec.ofChange fnStoreTextSpec)

/-- ITS FALSE NEIGHBOUR: 'it returns false'. Refute it at one input. -/
def fnStoreTextWrong : ChangeSpec := { name := "fnStoreText", fn := fun _ => fun
  | [d] => { results := [.lit (.bool false)], args := [d] }
  | _ => none }
def FnStoreTextWrongFalsely : Prop := fnStoreTextRow.holds Try.pinned (OpenSpec.ofChange fnStoreTextWrong)

/-- 'laws.FnExactBaseDo': WHATEVER THE INPUT: true; the input reads as it did. -/
def fnExactBaseDoSpec : ChangeSpec := { name := "fnExactBaseDo", fn := fun _ => fun
  | [d1, d2] => { results := [.lit (.bool true)], args := [d1, d2] }
  | _ => none }
def fnExactBaseDoRow : OpenClaim := { program := "ytokicdkdllndpaa", sum := "fe829d4d7660b732e071f47eff99c756a0cd6122a39d86970e40747177166cef", func := "loop.example/g00769/laws.FnExactBaseDo", spec := "fnExactBaseDo", unfollowed := true, recurses := true, apart := false }
def FnExactBaseDoSaid : Prop := fnExactBaseDoRow.holds Try.pinned (OpenSpec.ofChange fnExactBaseDoSpec)

/-- ITS FALSE NEIGHBOUR: 'it returns false'. Refute it at one input. -/
def fnExactBaseDoWrong : ChangeSpec := { name := "fnExactBaseDo", fn := fun _ => fun
  | [d1, d2] => { results := [.lit (.bool false)], args := [d1, d2] }
  | _ => none }
def FnExactBaseDoWrongFalsely : Prop := fnExactBaseDoRow.holds Try.pinned (OpenSpec.ofChange fnExactBaseDoWrong)

/-- 'laws.FnExactBaseAll': WHATEVER THE INPUT: true; the input reads as it did. -/
def fnExactBaseAllSpec : ChangeSpec := { name := "fnExactBaseAll", fn := fun _ => fun
  | [d1, d2] => { results := [.lit (.bool true)], args := [d1, d2] }
  | _ => none }
def fnExactBaseAllRow : OpenClaim := { program := "ytokicdkdllndpaa", sum := "fe829d4d7660b732e071f47eff99c756a0cd6122a39d86970e40747177166cef", func := "loop.example/g00769/laws.FnExactBaseAll", spec := "fnExactBaseAll", unfollowed := true, recurses := true, apart := false }
def FnExactBaseAllSaid : Prop := fnExactBaseAllRow.holds Try.pinned (OpenSpec.ofChange fnExactBaseAllSpec)

/-- ITS FALSE NEIGHBOUR: 'it returns false'. Refute it at one input. -/
def fnExactBaseAllWrong : ChangeSpec := { name := "fnExactBaseAll", fn := fun _ => fun
  | [d1, d2] => { results := [.lit (.bool false)], args := [d1, d2] }
  | _ => none }
def FnExactBaseAllWrongFalsely : Prop := fnExactBaseAllRow.holds Try.pinned (OpenSpec.ofChange fnExactBaseAllWrong)

/-- 'laws.FnExactFollow': WHATEVER THE INPUT: true; the input reads as it did. -/
def fnExactFollowSpec : ChangeSpec := { name := "fnExactFollow", fn := fun _ => fun
  | [d1, d2] => { results := [.lit (.bool true)], args := [d1, d2] }
  | _ => none }
def fnExactFollowRow : OpenClaim := { program := "ytokicdkdllndpaa", sum := "fe829d4d7660b732e071f47eff99c756a0cd6122a39d86970e40747177166cef", func := "loop.example/g00769/laws.FnExactFollow", spec := "fnExactFollow", unfollowed := true, recurses := true, apart := false }
def FnExactFollowSaid : Prop := fnExactFollowRow.holds Try.pinned (OpenSpec.ofChange fnExactFollowSpec)

/-- ITS FALSE NEIGHBOUR: 'it returns false'. Refute it at one input. -/
def fnExactFollowWrong : ChangeSpec := { name := "fnExactFollow", fn := fun _ => fun
  | [d1, d2] => { results := [.lit (.bool false)], args := [d1, d2] }
  | _ => none }
def FnExactFollowWrongFalsely : Prop := fnExactFollowRow.holds Try.pinned (OpenSpec.ofChange fnExactFollowWrong)

/-- 'laws.FnStore': WHATEVER THE INPUT: true; the input reads as it did. -/
def fnStoreSpec : ChangeSpec := { name := "fnStore", fn := fun _ => fun
  | [d] => { results := [.lit (.bool true)], args := [d] }
  | _ => none }
def fnStoreRow : OpenClaim := { program := "ytokicdkdllndpaa", sum := "fe829d4d7660b732e071f47eff99c756a0cd6122a39d86970e40747177166cef", func := "loop.example/g00769/laws.FnStore", spec := "fnStore", unfollowed := true, recurses := true, apart := false }
def FnStoreSaid : Prop := fnStoreRow.holds Try.pinned (OpenSpec.ofChange fnStoreSpec)

/-- ITS FALSE NEIGHBOUR: 'it returns false'. Refute it at one input. -/
def fnStoreWrong : ChangeSpec := { name := "fnStore", fn := fun _ => fun
  | [d] => { results := [.lit (.bool false)], args := [d] }
  | _ => none }
def FnStoreWrongFalsely : Prop := fnStoreRow.holds Try.pinned (OpenSpec.ofChange fnStoreWrong)

/-- 'laws.FnExactReadName': WHATEVER THE INPUT: true; the input reads as it did. -/
def fnExactReadNameSpec : ChangeSpec := { name := "fnExactReadName", fn := fun _ => fun
  | [d] => { results := [.lit (.bool true)], args := [d] }
  | _ => none }
def fnExactReadNameRow : OpenClaim := { program := "ytokicdkdllndpaa", sum := "fe829d4d7660b732e071f47eff99c756a0cd6122a39d86970e40747177166cef", func := "loop.example/g00769/laws.FnExactReadName", spec := "fnExactReadName", unfollowed := true, recurses := true, apart := false }
def FnExactReadNameSaid : Prop := fnExactReadNameRow.holds Try.pinned (OpenSpec.ofChange fnExactReadNameSpec)

/-- ITS FALSE NEIGHBOUR: 'it returns false'. Refute it at one input. -/
def fnExactReadNameWrong : ChangeSpec := { name := "fnExactReadName", fn := fun _ => fun
  | [d] => { results := [.lit (.bool false)], args := [d] }
  | _ => none }
def FnExactReadNameWrongFalsely : Prop := fnExactReadNameRow.holds Try.pinned (OpenSpec.ofChange fnExactReadNameWrong)

/-- 'laws.FnNames': WHATEVER THE INPUT: true; the input reads as it did. -/
def fnNamesSpec : ChangeSpec := { name := "fnNames", fn := fun _ => fun
  | [d] => { results := [.lit (.bool true)], args := [d] }
  | _ => none }
def fnNamesRow : OpenClaim := { program := "ytokicdkdllndpaa", sum := "fe829d4d7660b732e071f47eff99c756a0cd6122a39d86970e40747177166cef", func := "loop.example/g00769/laws.FnNames", spec := "fnNames", unfollowed := true, recurses := true, apart := false }
def FnNamesSaid : Prop := fnNamesRow.holds Try.pinned (OpenSpec.ofChange fnNamesSpec)

/-- ITS FALSE NEIGHBOUR: 'it returns false'. Refute it at one input. -/
def fnNamesWrong : ChangeSpec := { name := "fnNames", fn := fun _ => fun
  | [d] => { results := [.lit (.bool false)], args := [d] }
  | _ => none }
def FnNamesWrongFalsely : Prop := fnNamesRow.holds Try.pinned (OpenSpec.ofChange fnNamesWrong)

/- THE SECOND FORM. 'bulk': how many values and letters a reading holds, each counted each time it is reached (what is shared counts as often as it is met; a slice's spare places count too). A statement '..UptoSaid' is the law's where the arguments, and the package variables that the reading takes, are together of bulk at most 1048576: NARROWER than '..Said'. Prove '..Said' where nothing that the law and all that it calls make is longer than what came in: it says more and counts as full. Else prove '..UptoSaid'. A law counts once. -/
mutual
def uptoBulk {H : Type} : DataW H → Nat
  | .lit (.string bytes) => bytes.length + 1
  | .lit _ => 1
  | .nil => 1
  | .ptr d => uptoBulk d + 1
  | .slice elems spare => uptoBulkAll elems + uptoBulkAll spare + 1
  | .agg parts => uptoBulkAll parts + 1
  | .iface _ d => uptoBulk d + 1
  | .map entries => uptoBulkEntries entries + 1
  | .held _ => 1
def uptoBulkAll {H : Type} : List (DataW H) → Nat
  | [] => 0
  | d :: r => uptoBulk d + uptoBulkAll r
def uptoBulkEntries {H : Type} : List (Lit × DataW H) → Nat
  | [] => 0
  | x :: r => uptoBulkEntry x + uptoBulkEntries r
def uptoBulkEntry {H : Type} : Lit × DataW H → Nat
  | (.string bytes, d) => bytes.length + uptoBulk d + 1
  | (_, d) => uptoBulk d + 1
 end
def uptoSmall : (H : Type) → List (DataW H) → Bool := fun _ ds => decide (uptoBulkAll ds ≤ 1048576)
def OpenSpec.upto (s : _root_.Go.ChangeSpec) : _root_.Go.OpenSpec := { _root_.Go.OpenSpec.ofChange s with cond := some uptoSmall }

/-- 'laws.FnExactBaseOk', WHERE WHAT IT READS IS OF BULK AT MOST 1048576: true; the input reads as it did. -/
def fnExactBaseOkUptoRow : OpenClaim := { program := "ytokicdkdllndpaa", sum := "fe829d4d7660b732e071f47eff99c756a0cd6122a39d86970e40747177166cef", func := "loop.example/g00769/laws.FnExactBaseOk", spec := "fnExactBaseOk", apart := false, narrowed := true }
def FnExactBaseOkUptoSaid : Prop := fnExactBaseOkUptoRow.holds Try.pinned (OpenSpec.upto fnExactBaseOkSpec)

/-- 'laws.FnExactShowBase', WHERE WHAT IT READS IS OF BULK AT MOST 1048576: true; the input reads as it did. -/
def fnExactShowBaseUptoRow : OpenClaim := { program := "ytokicdkdllndpaa", sum := "fe829d4d7660b732e071f47eff99c756a0cd6122a39d86970e40747177166cef", func := "loop.example/g00769/laws.FnExactShowBase", spec := "fnExactShowBase", apart := false, narrowed := true }
def FnExactShowBaseUptoSaid : Prop := fnExactShowBaseUptoRow.holds Try.pinned (OpenSpec.upto fnExactShowBaseSpec)

/-- 'laws.FnExactReadBase', WHERE WHAT IT READS IS OF BULK AT MOST 1048576: true; the input reads as it did. -/
def fnExactReadBaseUptoRow : OpenClaim := { program := "ytokicdkdllndpaa", sum := "fe829d4d7660b732e071f47eff99c756a0cd6122a39d86970e40747177166cef", func := "loop.example/g00769/laws.FnExactReadBase", spec := "fnExactReadBase", apart := false, narrowed := true }
def FnExactReadBaseUptoSaid : Prop := fnExactReadBaseUptoRow.holds Try.pinned (OpenSpec.upto fnExactReadBaseSpec)

/-- 'laws.FnStoreText', WHERE WHAT IT READS IS OF BULK AT MOST 1048576: true; the input reads as it did. -/
def fnStoreTextUptoRow : OpenClaim := { program := "ytokicdkdllndpaa", sum := "fe829d4d7660b732e071f47eff99c756a0cd6122a39d86970e40747177166cef", func := "loop.example/g00769/laws.FnStoreText", spec := "fnStoreText", apart := false, narrowed := true }
def FnStoreTextUptoSaid : Prop := fnStoreTextUptoRow.holds Try.pinned (OpenSpec.upto fnStoreTextSpec)

/-- 'laws.FnExactBaseDo', WHERE WHAT IT READS IS OF BULK AT MOST 1048576: true; the input reads as it did. -/
def fnExactBaseDoUptoRow : OpenClaim := { program := "ytokicdkdllndpaa", sum := "fe829d4d7660b732e071f47eff99c756a0cd6122a39d86970e40747177166cef", func := "loop.example/g00769/laws.FnExactBaseDo", spec := "fnExactBaseDo", unfollowed := true, recurses := true, apart := false, narrowed := true }
def FnExactBaseDoUptoSaid : Prop := fnExactBaseDoUptoRow.holds Try.pinned (OpenSpec.upto fnExactBaseDoSpec)

/-- 'laws.FnExactBaseAll', WHERE WHAT IT READS IS OF BULK AT MOST 1048576: true; the input reads as it did. -/
def fnExactBaseAllUptoRow : OpenClaim := { program := "ytokicdkdllndpaa", sum := "fe829d4d7660b732e071f47eff99c756a0cd6122a39d86970e40747177166cef", func := "loop.example/g00769/laws.FnExactBaseAll", spec := "fnExactBaseAll", unfollowed := true, recurses := true, apart := false, narrowed := true }
def FnExactBaseAllUptoSaid : Prop := fnExactBaseAllUptoRow.holds Try.pinned (OpenSpec.upto fnExactBaseAllSpec)

/-- 'laws.FnExactFollow', WHERE WHAT IT READS IS OF BULK AT MOST 1048576: true; the input reads as it did. -/
def fnExactFollowUptoRow : OpenClaim := { program := "ytokicdkdllndpaa", sum := "fe829d4d7660b732e071f47eff99c756a0cd6122a39d86970e40747177166cef", func := "loop.example/g00769/laws.FnExactFollow", spec := "fnExactFollow", unfollowed := true, recurses := true, apart := false, narrowed := true }
def FnExactFollowUptoSaid : Prop := fnExactFollowUptoRow.holds Try.pinned (OpenSpec.upto fnExactFollowSpec)

/-- 'laws.FnStore', WHERE WHAT IT READS IS OF BULK AT MOST 1048576: true; the input reads as it did. -/
def fnStoreUptoRow : OpenClaim := { program := "ytokicdkdllndpaa", sum := "fe829d4d7660b732e071f47eff99c756a0cd6122a39d86970e40747177166cef", func := "loop.example/g00769/laws.FnStore", spec := "fnStore", unfollowed := true, recurses := true, apart := false, narrowed := true }
def FnStoreUptoSaid : Prop := fnStoreUptoRow.holds Try.pinned (OpenSpec.upto fnStoreSpec)

/-- 'laws.FnExactReadName', WHERE WHAT IT READS IS OF BULK AT MOST 1048576: true; the input reads as it did. -/
def fnExactReadNameUptoRow : OpenClaim := { program := "ytokicdkdllndpaa", sum := "fe829d4d7660b732e071f47eff99c756a0cd6122a39d86970e40747177166cef", func := "loop.example/g00769/laws.FnExactReadName", spec := "fnExactReadName", unfollowed := true, recurses := true, apart := false, narrowed := true }
def FnExactReadNameUptoSaid : Prop := fnExactReadNameUptoRow.holds Try.pinned (OpenSpec.upto fnExactReadNameSpec)

/-- 'laws.FnNames', WHERE WHAT IT READS IS OF BULK AT MOST 1048576: true; the input reads as it did. -/
def fnNamesUptoRow : OpenClaim := { program := "ytokicdkdllndpaa", sum := "fe829d4d7660b732e071f47eff99c756a0cd6122a39d86970e40747177166cef", func := "loop.example/g00769/laws.FnNames", spec := "fnNames", unfollowed := true, recurses := true, apart := false, narrowed := true }
def FnNamesUptoSaid : Prop := fnNamesUptoRow.holds Try.pinned (OpenSpec.upto fnNamesSpec)

end Rows
end Go.Proofs.Ytokicdkdllndpaa
