/-
  No cell of these rows narrows 'for every input' (looked for: loops, veiled, ifaces, maps, wideKeys, modest, calm, conditions, laid).
  DERIVED. THE GIVEN ROWS OF THIS SEAT. 12 by the template 'for every input the law returns true; each argument reads behind the call as it read before'; 0 by the template 'total and deterministic' (their statements: YtjepmnmakemfoaaTotals.lean).
  GIVEN WITH THE SEED: the statements are not yours to turn. If you find one false, say at which input.
  Laid BY PROGRAM, IN A SANDBOX (cutbox-rows.mjs): the forced cells as the released guide's own fill.sh prints them over the translation 383debc98820a29b… (all of the seat's roots in one cut). By AI agents, Wed Nov 11 2026. No macro, syntax, notation, axiom, sorry.
-/
import Derived.Test.YtjepmnmakemfoaaChecked
import GoSem.Claim
import GoSem.ClaimJoined
import GoSem.ClaimMapViews
import Derived.JoinedTies
import Derived.KernelRfl
namespace Go.Proofs.Ytjepmnmakemfoaa
/- THE CELL 'sum', in the pinned program and in every row, IS THE sha256 OF THE DUMP (.gsa) THAT YtjepmnmakemfoaaProg.lean LOADS. Nothing in Lean hashes anything: it is a label: what it is worth is what the hold of that sum in a sandbox is worth. -/
noncomputable def Try.pinned : Pinned := { name := "ytjepmnmakemfoaa", sum := "383debc98820a29b0d29c4a069f3fdcc074b4cc4cbae345ee5514f1127076b61", checked := Try.checked }
namespace Rows
def none {H : Type} : Left H := { results := [], args := [] }

/-- 'laws.FnExactTabOk': WHATEVER THE INPUT: true; the input reads as it did. -/
def fnExactTabOkSpec : ChangeSpec := { name := "fnExactTabOk", fn := fun _ => fun
  | [d] => { results := [.lit (.bool true)], args := [d] }
  | _ => none }
def fnExactTabOkRow : OpenClaim := { program := "ytjepmnmakemfoaa", sum := "383debc98820a29b0d29c4a069f3fdcc074b4cc4cbae345ee5514f1127076b61", func := "loop.example/g00769/laws.FnExactTabOk", spec := "fnExactTabOk", unfollowed := true, recurses := true, apart := false }
def FnExactTabOkSaid : Prop := fnExactTabOkRow.holds Try.pinned (OpenSpec.ofChange fnExactTabOkSpec)

/-- ITS FALSE NEIGHBOUR: 'it returns false'. Refute it at one input. -/
def fnExactTabOkWrong : ChangeSpec := { name := "fnExactTabOk", fn := fun _ => fun
  | [d] => { results := [.lit (.bool false)], args := [d] }
  | _ => none }
def FnExactTabOkWrongFalsely : Prop := fnExactTabOkRow.holds Try.pinned (OpenSpec.ofChange fnExactTabOkWrong)

/-- 'laws.FnExactTabFind': WHATEVER THE INPUT: true; the input reads as it did. -/
def fnExactTabFindSpec : ChangeSpec := { name := "fnExactTabFind", fn := fun _ => fun
  | [d1, d2, d3] => { results := [.lit (.bool true)], args := [d1, d2, d3] }
  | _ => none }
def fnExactTabFindRow : OpenClaim := { program := "ytjepmnmakemfoaa", sum := "383debc98820a29b0d29c4a069f3fdcc074b4cc4cbae345ee5514f1127076b61", func := "loop.example/g00769/laws.FnExactTabFind", spec := "fnExactTabFind", unfollowed := true, recurses := true, apart := false }
def FnExactTabFindSaid : Prop := fnExactTabFindRow.holds Try.pinned (OpenSpec.ofChange fnExactTabFindSpec)

/-- ITS FALSE NEIGHBOUR: 'it returns false'. Refute it at one input. -/
def fnExactTabFindWrong : ChangeSpec := { name := "fnExactTabFind", fn := fun _ => fun
  | [d1, d2, d3] => { results := [.lit (.bool false)], args := [d1, d2, d3] }
  | _ => none }
def FnExactTabFindWrongFalsely : Prop := fnExactTabFindRow.holds Try.pinned (OpenSpec.ofChange fnExactTabFindWrong)

/-- 'laws.FnExactTabNow': WHATEVER THE INPUT: true; the input reads as it did. -/
def fnExactTabNowSpec : ChangeSpec := { name := "fnExactTabNow", fn := fun _ => fun
  | [d1, d2] => { results := [.lit (.bool true)], args := [d1, d2] }
  | _ => none }
def fnExactTabNowRow : OpenClaim := { program := "ytjepmnmakemfoaa", sum := "383debc98820a29b0d29c4a069f3fdcc074b4cc4cbae345ee5514f1127076b61", func := "loop.example/g00769/laws.FnExactTabNow", spec := "fnExactTabNow", unfollowed := true, recurses := true, apart := false }
def FnExactTabNowSaid : Prop := fnExactTabNowRow.holds Try.pinned (OpenSpec.ofChange fnExactTabNowSpec)

/-- ITS FALSE NEIGHBOUR: 'it returns false'. Refute it at one input. -/
def fnExactTabNowWrong : ChangeSpec := { name := "fnExactTabNow", fn := fun _ => fun
  | [d1, d2] => { results := [.lit (.bool false)], args := [d1, d2] }
  | _ => none }
def FnExactTabNowWrongFalsely : Prop := fnExactTabNowRow.holds Try.pinned (OpenSpec.ofChange fnExactTabNowWrong)

/-- 'laws.FnExactShowTab': WHATEVER THE INPUT: true; the input reads as it did. -/
def fnExactShowTabSpec : ChangeSpec := { name := "fnExactShowTab", fn := fun _ => fun
  | [d] => { results := [.lit (.bool true)], args := [d] }
  | _ => none }
def fnExactShowTabRow : OpenClaim := { program := "ytjepmnmakemfoaa", sum := "383debc98820a29b0d29c4a069f3fdcc074b4cc4cbae345ee5514f1127076b61", func := "loop.example/g00769/laws.FnExactShowTab", spec := "fnExactShowTab", unfollowed := true, recurses := true, apart := false }
def FnExactShowTabSaid : Prop := fnExactShowTabRow.holds Try.pinned (OpenSpec.ofChange fnExactShowTabSpec)

/-- ITS FALSE NEIGHBOUR: 'it returns false'. Refute it at one input. -/
def fnExactShowTabWrong : ChangeSpec := { name := "fnExactShowTab", fn := fun _ => fun
  | [d] => { results := [.lit (.bool false)], args := [d] }
  | _ => none }
def FnExactShowTabWrongFalsely : Prop := fnExactShowTabRow.holds Try.pinned (OpenSpec.ofChange fnExactShowTabWrong)

/-- 'laws.FnExactTabKeep': WHATEVER THE INPUT: true; the input reads as it did. -/
def fnExactTabKeepSpec : ChangeSpec := { name := "fnExactTabKeep", fn := fun _ => fun
  | [d1, d2] => { results := [.lit (.bool true)], args := [d1, d2] }
  | _ => none }
def fnExactTabKeepRow : OpenClaim := { program := "ytjepmnmakemfoaa", sum := "383debc98820a29b0d29c4a069f3fdcc074b4cc4cbae345ee5514f1127076b61", func := "loop.example/g00769/laws.FnExactTabKeep", spec := "fnExactTabKeep", unfollowed := true, recurses := true, apart := false }
def FnExactTabKeepSaid : Prop := fnExactTabKeepRow.holds Try.pinned (OpenSpec.ofChange fnExactTabKeepSpec)

/-- ITS FALSE NEIGHBOUR: 'it returns false'. Refute it at one input. -/
def fnExactTabKeepWrong : ChangeSpec := { name := "fnExactTabKeep", fn := fun _ => fun
  | [d1, d2] => { results := [.lit (.bool false)], args := [d1, d2] }
  | _ => none }
def FnExactTabKeepWrongFalsely : Prop := fnExactTabKeepRow.holds Try.pinned (OpenSpec.ofChange fnExactTabKeepWrong)

/-- 'laws.FnExactReadTab': WHATEVER THE INPUT: true; the input reads as it did. -/
def fnExactReadTabSpec : ChangeSpec := { name := "fnExactReadTab", fn := fun _ => fun
  | [d] => { results := [.lit (.bool true)], args := [d] }
  | _ => none }
def fnExactReadTabRow : OpenClaim := { program := "ytjepmnmakemfoaa", sum := "383debc98820a29b0d29c4a069f3fdcc074b4cc4cbae345ee5514f1127076b61", func := "loop.example/g00769/laws.FnExactReadTab", spec := "fnExactReadTab", unfollowed := true, recurses := true, apart := false }
def FnExactReadTabSaid : Prop := fnExactReadTabRow.holds Try.pinned (OpenSpec.ofChange fnExactReadTabSpec)

/-- ITS FALSE NEIGHBOUR: 'it returns false'. Refute it at one input. -/
def fnExactReadTabWrong : ChangeSpec := { name := "fnExactReadTab", fn := fun _ => fun
  | [d] => { results := [.lit (.bool false)], args := [d] }
  | _ => none }
def FnExactReadTabWrongFalsely : Prop := fnExactReadTabRow.holds Try.pinned (OpenSpec.ofChange fnExactReadTabWrong)

/-- 'laws.FnTabText': WHATEVER THE INPUT: true; the input reads as it did. -/
def fnTabTextSpec : ChangeSpec := { name := "fnTabText", fn := fun _ => fun
  | [d] => { results := [.lit (.bool true)], args := [d] }
  | _ => none }
def fnTabTextRow : OpenClaim := { program := "ytjepmnmakemfoaa", sum := "383debc98820a29b0d29c4a069f3fdcc074b4cc4cbae345ee5514f1127076b61", func := "loop.example/g00769/laws.FnTabText", spec := "fnTabText", unfollowed := true, recurses := true, apart := false }
def FnTabTextSaid : Prop := fnTabTextRow.holds Try.pinned (OpenSpec.ofChange fnTabTextSpec)

/-- ITS FALSE NEIGHBOUR: 'it returns false'. Refute it at one input. -/
def fnTabTextWrong : ChangeSpec := { name := "fnTabText", fn := fun _ => fun
  | [d] => { results := [.lit (.bool false)], args := [d] }
  | _ => none }
def FnTabTextWrongFalsely : Prop := fnTabTextRow.holds Try.pinned (OpenSpec.ofChange fnTabTextWrong)

/-- 'laws.FnExactTabAdd': WHATEVER THE INPUT: true; the input reads as it did. -/
def fnExactTabAddSpec : ChangeSpec := { name := "fnExactTabAdd", fn := fun _ => fun
  | [d1, d2, d3] => { results := [.lit (.bool true)], args := [d1, d2, d3] }
  | _ => none }
def fnExactTabAddRow : OpenClaim := { program := "ytjepmnmakemfoaa", sum := "383debc98820a29b0d29c4a069f3fdcc074b4cc4cbae345ee5514f1127076b61", func := "loop.example/g00769/laws.FnExactTabAdd", spec := "fnExactTabAdd", unfollowed := true, recurses := true, apart := false }
def FnExactTabAddSaid : Prop := fnExactTabAddRow.holds Try.pinned (OpenSpec.ofChange fnExactTabAddSpec)

/-- ITS FALSE NEIGHBOUR: 'it returns false'. Refute it at one input. -/
def fnExactTabAddWrong : ChangeSpec := { name := "fnExactTabAdd", fn := fun _ => fun
  | [d1, d2, d3] => { results := [.lit (.bool false)], args := [d1, d2, d3] }
  | _ => none }
def FnExactTabAddWrongFalsely : Prop := fnExactTabAddRow.holds Try.pinned (OpenSpec.ofChange fnExactTabAddWrong)

/-- 'laws.FnTab': WHATEVER THE INPUT: true; the input reads as it did. -/
def fnTabSpec : ChangeSpec := { name := "fnTab", fn := fun _ => fun
  | [d] => { results := [.lit (.bool true)], args := [d] }
  | _ => none }
def fnTabRow : OpenClaim := { program := "ytjepmnmakemfoaa", sum := "383debc98820a29b0d29c4a069f3fdcc074b4cc4cbae345ee5514f1127076b61", func := "loop.example/g00769/laws.FnTab", spec := "fnTab", unfollowed := true, recurses := true, apart := false }
def FnTabSaid : Prop := fnTabRow.holds Try.pinned (OpenSpec.ofChange fnTabSpec)

/-- ITS FALSE NEIGHBOUR: 'it returns false'. Refute it at one input. -/
def fnTabWrong : ChangeSpec := { name := "fnTab", fn := fun _ => fun
  | [d] => { results := [.lit (.bool false)], args := [d] }
  | _ => none }
def FnTabWrongFalsely : Prop := fnTabRow.holds Try.pinned (OpenSpec.ofChange fnTabWrong)

/-- 'laws.FnExactSeenOk': WHATEVER THE INPUT: true; the input reads as it did. -/
def fnExactSeenOkSpec : ChangeSpec := { name := "fnExactSeenOk", fn := fun _ => fun
  | [d] => { results := [.lit (.bool true)], args := [d] }
  | _ => none }
def fnExactSeenOkRow : OpenClaim := { program := "ytjepmnmakemfoaa", sum := "383debc98820a29b0d29c4a069f3fdcc074b4cc4cbae345ee5514f1127076b61", func := "loop.example/g00769/laws.FnExactSeenOk", spec := "fnExactSeenOk", apart := false }
def FnExactSeenOkSaid : Prop := fnExactSeenOkRow.holds Try.pinned (OpenSpec.ofChange fnExactSeenOkSpec)

/-- ITS FALSE NEIGHBOUR: 'it returns false'. Refute it at one input. -/
def fnExactSeenOkWrong : ChangeSpec := { name := "fnExactSeenOk", fn := fun _ => fun
  | [d] => { results := [.lit (.bool false)], args := [d] }
  | _ => none }
def FnExactSeenOkWrongFalsely : Prop := fnExactSeenOkRow.holds Try.pinned (OpenSpec.ofChange fnExactSeenOkWrong)

/-- 'laws.FnSeen': WHATEVER THE INPUT: true; the input reads as it did. -/
def fnSeenSpec : ChangeSpec := { name := "fnSeen", fn := fun _ => fun
  | [d] => { results := [.lit (.bool true)], args := [d] }
  | _ => none }
def fnSeenRow : OpenClaim := { program := "ytjepmnmakemfoaa", sum := "383debc98820a29b0d29c4a069f3fdcc074b4cc4cbae345ee5514f1127076b61", func := "loop.example/g00769/laws.FnSeen", spec := "fnSeen", apart := false }
def FnSeenSaid : Prop := fnSeenRow.holds Try.pinned (OpenSpec.ofChange fnSeenSpec)

/-- ITS FALSE NEIGHBOUR: 'it returns false'. Refute it at one input. -/
def fnSeenWrong : ChangeSpec := { name := "fnSeen", fn := fun _ => fun
  | [d] => { results := [.lit (.bool false)], args := [d] }
  | _ => none }
def FnSeenWrongFalsely : Prop := fnSeenRow.holds Try.pinned (OpenSpec.ofChange fnSeenWrong)

/-- 'laws.FnExactSeenTry': WHATEVER THE INPUT: true; the input reads as it did. -/
def fnExactSeenTrySpec : ChangeSpec := { name := "fnExactSeenTry", fn := fun _ => fun
  | [d1, d2, d3] => { results := [.lit (.bool true)], args := [d1, d2, d3] }
  | _ => none }
def fnExactSeenTryRow : OpenClaim := { program := "ytjepmnmakemfoaa", sum := "383debc98820a29b0d29c4a069f3fdcc074b4cc4cbae345ee5514f1127076b61", func := "loop.example/g00769/laws.FnExactSeenTry", spec := "fnExactSeenTry", apart := false }
def FnExactSeenTrySaid : Prop := fnExactSeenTryRow.holds Try.pinned (OpenSpec.ofChange fnExactSeenTrySpec)

/-- ITS FALSE NEIGHBOUR: 'it returns false'. Refute it at one input. -/
def fnExactSeenTryWrong : ChangeSpec := { name := "fnExactSeenTry", fn := fun _ => fun
  | [d1, d2, d3] => { results := [.lit (.bool false)], args := [d1, d2, d3] }
  | _ => none }
def FnExactSeenTryWrongFalsely : Prop := fnExactSeenTryRow.holds Try.pinned (OpenSpec.ofChange fnExactSeenTryWrong)

/- THE SECOND FORM. 'bulk': how many values and letters a reading holds, each counted each time it is reached (what is shared counts as often as it is met; a slice's spare places count too). A statement '..UptoSaid' is the law's where the arguments, and the package variables that the reading takes, are together of bulk at most 1048576: NARROWER than '..Said'. Prove '..Said' where nothing that the law and all that it calls make is longer than what came in: it says more and counts as full. Else prove '..UptoSaid'. A law counts once. -/
mutual
def uptoBulk {H : Type} : DataW H → Nat
  | .lit (.string bytes) => bytes.length + 1
  | .lit _ => 1
  | .nil => 1
  | .ptr d => uptoBulk d + 1
  | .slice elems spare => uptoBulkAll elems + uptoBulkAll spare + 1
  | .agg parts => uptoBulkAll parts + 1
  | .iface _ d => uptoBulk d + 1
  | .map entries => uptoBulkEntries entries + 1
  | .held _ => 1
def uptoBulkAll {H : Type} : List (DataW H) → Nat
  | [] => 0
  | d :: r => uptoBulk d + uptoBulkAll r
def uptoBulkEntries {H : Type} : List (Lit × DataW H) → Nat
  | [] => 0
  | x :: r => uptoBulkEntry x + uptoBulkEntries r
def uptoBulkEntry {H : Type} : Lit × DataW H → Nat
  | (.string bytes, d) => bytes.length + uptoBulk d + 1
  | (_, d) => uptoBulk d + 1
 end
def uptoSmall : (H : Type) → List (DataW H) → Bool := fun _ ds => decide (uptoBulkAll ds ≤ 1048576)
def OpenSpec.upto (s : _root_.Go.ChangeSpec) : _root_.Go.OpenSpec := { _root_.Go.OpenSpec.ofChange s with cond := some uptoSmall }

/-- 'laws.FnExactTabOk', WHERE WHAT IT READS IS OF BULK AT MOST 1048576: true; the input reads as it did. -/
def fnExactTabOkUptoRow : OpenClaim := { program := "ytjepmnmakemfoaa", sum := "383debc98820a29b0d29c4a069f3fdcc074b4cc4cbae345ee5514f1127076b61", func := "loop.example/g00769/laws.FnExactTabOk", spec := "fnExactTabOk", unfollowed := true, recurses := true, apart := false, narrowed := true }
def FnExactTabOkUptoSaid : Prop := fnExactTabOkUptoRow.holds Try.pinned (OpenSpec.upto fnExactTabOkSpec)

/-- 'laws.FnExactTabFind', WHERE WHAT IT READS IS OF BULK AT MOST 1048576: true; the input reads as it did. -/
def fnExactTabFindUptoRow : OpenClaim := { program := "ytjepmnmakemfoaa", sum := "383debc98820a29b0d29c4a069f3fdcc074b4cc4cbae345ee5514f1127076b61", func := "loop.example/g00769/laws.FnExactTabFind", spec := "fnExactTabFind", unfollowed := true, recurses := true, apart := false, narrowed := true }
def FnExactTabFindUptoSaid : Prop := fnExactTabFindUptoRow.holds Try.pinned (OpenSpec.upto fnExactTabFindSpec)

/-- 'laws.FnExactTabNow', WHERE WHAT IT READS IS OF BULK AT MOST 1048576: true; the input reads as it did. -/
def fnExactTabNowUptoRow : OpenClaim := { program := "ytjepmnmakemfoaa", sum := "383debc98820a29b0d29c4a069f3fdcc074b4cc4cbae345ee5514f1127076b61", func := "loop.example/g00769/laws.FnExactTabNow", spec := "fnExactTabNow", unfollowed := true, recurses := true, apart := false, narrowed := true }
def FnExactTabNowUptoSaid : Prop := fnExactTabNowUptoRow.holds Try.pinned (OpenSpec.upto fnExactTabNowSpec)

/-- 'laws.FnExactShowTab', WHERE WHAT IT READS IS OF BULK AT MOST 1048576: true; the input reads as it did. -/
def fnExactShowTabUptoRow : OpenClaim := { program := "ytjepmnmakemfoaa", sum := "383debc98820a29b0d29c4a069f3fdcc074b4cc4cbae345ee5514f1127076b61", func := "loop.example/g00769/laws.FnExactShowTab", spec := "fnExactShowTab", unfollowed := true, recurses := true, apart := false, narrowed := true }
def FnExactShowTabUptoSaid : Prop := fnExactShowTabUptoRow.holds Try.pinned (OpenSpec.upto fnExactShowTabSpec)

/-- 'laws.FnExactTabKeep', WHERE WHAT IT READS IS OF BULK AT MOST 1048576: true; the input reads as it did. -/
def fnExactTabKeepUptoRow : OpenClaim := { program := "ytjepmnmakemfoaa", sum := "383debc98820a29b0d29c4a069f3fdcc074b4cc4cbae345ee5514f1127076b61", func := "loop.example/g00769/laws.FnExactTabKeep", spec := "fnExactTabKeep", unfollowed := true, recurses := true, apart := false, narrowed := true }
def FnExactTabKeepUptoSaid : Prop := fnExactTabKeepUptoRow.holds Try.pinned (OpenSpec.upto fnExactTabKeepSpec)

/-- 'laws.FnExactReadTab', WHERE WHAT IT READS IS OF BULK AT MOST 1048576: true; the input reads as it did. -/
def fnExactReadTabUptoRow : OpenClaim := { program := "ytjepmnmakemfoaa", sum := "383debc98820a29b0d29c4a069f3fdcc074b4cc4cbae345ee5514f1127076b61", func := "loop.example/g00769/laws.FnExactReadTab", spec := "fnExactReadTab", unfollowed := true, recurses := true, apart := false, narrowed := true }
def FnExactReadTabUptoSaid : Prop := fnExactReadTabUptoRow.holds Try.pinned (OpenSpec.upto fnExactReadTabSpec)

/-- 'laws.FnTabText', WHERE WHAT IT READS IS OF BULK AT MOST 1048576: true; the input reads as it did. -/
def fnTabTextUptoRow : OpenClaim := { program := "ytjepmnmakemfoaa", sum := "383debc98820a29b0d29c4a069f3fdcc074b4cc4cbae345ee5514f1127076b61", func := "loop.example/g00769/laws.FnTabText", spec := "fnTabText", unfollowed := true, recurses := true, apart := false, narrowed := true }
def FnTabTextUptoSaid : Prop := fnTabTextUptoRow.holds Try.pinned (OpenSpec.upto fnTabTextSpec)

/-- 'laws.FnExactTabAdd', WHERE WHAT IT READS IS OF BULK AT MOST 1048576: true; the input reads as it did. -/
def fnExactTabAddUptoRow : OpenClaim := { program := "ytjepmnmakemfoaa", sum := "383debc98820a29b0d29c4a069f3fdcc074b4cc4cbae345ee5514f1127076b61", func := "loop.example/g00769/laws.FnExactTabAdd", spec := "fnExactTabAdd", unfollowed := true, recurses := true, apart := false, narrowed := true }
def FnExactTabAddUptoSaid : Prop := fnExactTabAddUptoRow.holds Try.pinned (OpenSpec.upto fnExactTabAddSpec)

/-- 'laws.FnTab', WHERE WHAT IT READS IS OF BULK AT MOST 1048576: true; the input reads as it did. -/
def fnTabUptoRow : OpenClaim := { program := "ytjepmnmakemfoaa", sum := "383debc98820a29b0d29c4a069f3fdcc074b4cc4cbae345ee5514f1127076b61", func := "loop.example/g00769/laws.FnTab", spec := "fnTab", unfollowed := true, recurses := true, apart := false, narrowed := true }
def FnTabUptoSaid : Prop := fnTabUptoRow.holds Try.pinned (OpenSpec.upto fnTabSpec)

/-- 'laws.FnExactSeenOk', WHERE WHAT IT READS IS OF BULK AT MOST 1048576: true; the input reads as it did. -/
def fnExactSeenOkUptoRow : OpenClaim := { program := "ytjepmnmakemfoaa", sum := "383debc98820a29b0d29c4a069f3fdcc074b4cc4cbae345ee5514f1127076b61", func := "loop.example/g00769/laws.FnExactSeenOk", spec := "fnExactSeenOk", apart := false, narrowed := true }
def FnExactSeenOkUptoSaid : Prop := fnExactSeenOkUptoRow.holds Try.pinned (OpenSpec.upto fnExactSeenOkSpec)

/-- 'laws.FnSeen', WHERE WHAT IT READS IS OF BULK AT MOST 1048576: true; the input reads as it did. -/
def fnSeenUptoRow : OpenClaim := { program := "ytjepmnmakemfoaa", sum := "383debc98820a29b0d29c4a069f3fdcc074b4cc4cbae345ee5514f1127076b61", func := "loop.example/g00769/laws.FnSeen", spec := "fnSeen", apart := false, narrowed := true }
def FnSeenUptoSaid : Prop := fnSeenUptoRow.holds Try.pinned (OpenSpec.upto fnSeenSpec)

/-- 'laws.FnExactSeenTry', WHERE WHAT IT READS IS OF BULK AT MOST 1048576: true; the input reads as it did. -/
def fnExactSeenTryUptoRow : OpenClaim := { program := "ytjepmnmakemfoaa", sum := "383debc98820a29b0d29c4a069f3fdcc074b4cc4cbae345ee5514f1127076b61", func := "loop.example/g00769/laws.FnExactSeenTry", spec := "fnExactSeenTry", apart := false, narrowed := true }
def FnExactSeenTryUptoSaid : Prop := fnExactSeenTryUptoRow.holds Try.pinned (OpenSpec.upto fnExactSeenTrySpec)

end Rows
end Go.Proofs.Ytjepmnmakemfoaa
