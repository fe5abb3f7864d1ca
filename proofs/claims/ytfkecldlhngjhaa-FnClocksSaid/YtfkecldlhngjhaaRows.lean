/-
  No cell of these rows narrows 'for every input' (looked for: loops, veiled, ifaces, maps, wideKeys, modest, calm, conditions, laid).
  DERIVED. THE GIVEN ROWS OF THIS SEAT. 12 by the template 'for every input the law returns true; each argument reads behind the call as it read before'; 0 by the template 'total and deterministic' (their statements: YtfkecldlhngjhaaTotals.lean).
  GIVEN WITH THE SEED: the statements are not yours to turn. If you find one false, say at which input.
  Laid BY PROGRAM, IN A SANDBOX (cutbox-rows.mjs): the forced cells as the released guide's own fill.sh prints them over the translation 907f455e4956b1fd… (all of the seat's roots in one cut). By AI agents, Wed Nov 11 2026. No macro, syntax, notation, axiom, sorry.
-/
import Derived.Test.YtfkecldlhngjhaaChecked
import GoSem.Claim
import GoSem.ClaimJoined
import GoSem.ClaimMapViews
import Derived.JoinedTies
import Derived.KernelRfl
namespace Go.Proofs.Ytfkecldlhngjhaa
/- THE CELL 'sum', in the pinned program and in every row, IS THE sha256 OF THE DUMP (.gsa) THAT YtfkecldlhngjhaaProg.lean LOADS. Nothing in Lean hashes anything: it is a label: what it is worth is what the hold of that sum in a sandbox is worth. -/
noncomputable def Try.pinned : Pinned := { name := "ytfkecldlhngjhaa", sum := "907f455e4956b1fd2b2c696846fec072ba024f1806c41ee902cf0e1bf23b4498", checked := Try.checked }
namespace Rows
def none {H : Type} : Left H := { results := [], args := [] }

/-- 'laws.FnExactClocksOk': WHATEVER THE INPUT: true; the input reads as it did. -/
def fnExactClocksOkSpec : ChangeSpec := { name := "fnExactClocksOk", fn := fun _ => fun
  | [d] => { results := [.lit (.bool true)], args := [d] }
  | _ => none }
def fnExactClocksOkRow : OpenClaim := { program := "ytfkecldlhngjhaa", sum := "907f455e4956b1fd2b2c696846fec072ba024f1806c41ee902cf0e1bf23b4498", func := "loop.example/g00769/laws.FnExactClocksOk", spec := "fnExactClocksOk", unfollowed := true, recurses := true, apart := false }
def FnExactClocksOkSaid : Prop := fnExactClocksOkRow.holds Try.pinned (OpenSpec.ofChange fnExactClocksOkSpec)

/-- ITS FALSE NEIGHBOUR: 'it returns false'. Refute it at one input. -/
def fnExactClocksOkWrong : ChangeSpec := { name := "fnExactClocksOk", fn := fun _ => fun
  | [d] => { results := [.lit (.bool false)], args := [d] }
  | _ => none }
def FnExactClocksOkWrongFalsely : Prop := fnExactClocksOkRow.holds Try.pinned (OpenSpec.ofChange fnExactClocksOkWrong)

/-- 'laws.FnExactLockedAt': WHATEVER THE INPUT: true; the input reads as it did. -/
def fnExactLockedAtSpec : ChangeSpec := { name := "fnExactLockedAt", fn := fun _ => fun
  | [d1, d2] => { results := [.lit (.bool true)], args := [d1, d2] }
  | _ => none }
def fnExactLockedAtRow : OpenClaim := { program := "ytfkecldlhngjhaa", sum := "907f455e4956b1fd2b2c696846fec072ba024f1806c41ee902cf0e1bf23b4498", func := "loop.example/g00769/laws.FnExactLockedAt", spec := "fnExactLockedAt", apart := false }
def FnExactLockedAtSaid : Prop := fnExactLockedAtRow.holds Try.pinned (OpenSpec.ofChange fnExactLockedAtSpec)

/-- ITS FALSE NEIGHBOUR: 'it returns false'. Refute it at one input. -/
def fnExactLockedAtWrong : ChangeSpec := { name := "fnExactLockedAt", fn := fun _ => fun
  | [d1, d2] => { results := [.lit (.bool false)], args := [d1, d2] }
  | _ => none }
def FnExactLockedAtWrongFalsely : Prop := fnExactLockedAtRow.holds Try.pinned (OpenSpec.ofChange fnExactLockedAtWrong)

/-- 'laws.FnExactLocalAt': WHATEVER THE INPUT: true; the input reads as it did. -/
def fnExactLocalAtSpec : ChangeSpec := { name := "fnExactLocalAt", fn := fun _ => fun
  | [d1, d2, d3] => { results := [.lit (.bool true)], args := [d1, d2, d3] }
  | _ => none }
def fnExactLocalAtRow : OpenClaim := { program := "ytfkecldlhngjhaa", sum := "907f455e4956b1fd2b2c696846fec072ba024f1806c41ee902cf0e1bf23b4498", func := "loop.example/g00769/laws.FnExactLocalAt", spec := "fnExactLocalAt", unfollowed := true, recurses := true, apart := false }
def FnExactLocalAtSaid : Prop := fnExactLocalAtRow.holds Try.pinned (OpenSpec.ofChange fnExactLocalAtSpec)

/-- ITS FALSE NEIGHBOUR: 'it returns false'. Refute it at one input. -/
def fnExactLocalAtWrong : ChangeSpec := { name := "fnExactLocalAt", fn := fun _ => fun
  | [d1, d2, d3] => { results := [.lit (.bool false)], args := [d1, d2, d3] }
  | _ => none }
def FnExactLocalAtWrongFalsely : Prop := fnExactLocalAtRow.holds Try.pinned (OpenSpec.ofChange fnExactLocalAtWrong)

/-- 'laws.FnLock': WHATEVER THE INPUT: true; the input reads as it did. -/
def fnLockSpec : ChangeSpec := { name := "fnLock", fn := fun _ => fun
  | [d] => { results := [.lit (.bool true)], args := [d] }
  | _ => none }
def fnLockRow : OpenClaim := { program := "ytfkecldlhngjhaa", sum := "907f455e4956b1fd2b2c696846fec072ba024f1806c41ee902cf0e1bf23b4498", func := "loop.example/g00769/laws.FnLock", spec := "fnLock", apart := false }
def FnLockSaid : Prop := fnLockRow.holds Try.pinned (OpenSpec.ofChange fnLockSpec)

/-- ITS FALSE NEIGHBOUR: 'it returns false'. Refute it at one input. -/
def fnLockWrong : ChangeSpec := { name := "fnLock", fn := fun _ => fun
  | [d] => { results := [.lit (.bool false)], args := [d] }
  | _ => none }
def FnLockWrongFalsely : Prop := fnLockRow.holds Try.pinned (OpenSpec.ofChange fnLockWrong)

/-- 'laws.FnExactLockOk': WHATEVER THE INPUT: true; the input reads as it did. -/
def fnExactLockOkSpec : ChangeSpec := { name := "fnExactLockOk", fn := fun _ => fun
  | [d1, d2] => { results := [.lit (.bool true)], args := [d1, d2] }
  | _ => none }
def fnExactLockOkRow : OpenClaim := { program := "ytfkecldlhngjhaa", sum := "907f455e4956b1fd2b2c696846fec072ba024f1806c41ee902cf0e1bf23b4498", func := "loop.example/g00769/laws.FnExactLockOk", spec := "fnExactLockOk", apart := false }
def FnExactLockOkSaid : Prop := fnExactLockOkRow.holds Try.pinned (OpenSpec.ofChange fnExactLockOkSpec)

/-- ITS FALSE NEIGHBOUR: 'it returns false'. Refute it at one input. -/
def fnExactLockOkWrong : ChangeSpec := { name := "fnExactLockOk", fn := fun _ => fun
  | [d1, d2] => { results := [.lit (.bool false)], args := [d1, d2] }
  | _ => none }
def FnExactLockOkWrongFalsely : Prop := fnExactLockOkRow.holds Try.pinned (OpenSpec.ofChange fnExactLockOkWrong)

/-- 'laws.FnExactSpread': WHATEVER THE INPUT: true; the input reads as it did. -/
def fnExactSpreadSpec : ChangeSpec := { name := "fnExactSpread", fn := fun _ => fun
  | [d] => { results := [.lit (.bool true)], args := [d] }
  | _ => none }
def fnExactSpreadRow : OpenClaim := { program := "ytfkecldlhngjhaa", sum := "907f455e4956b1fd2b2c696846fec072ba024f1806c41ee902cf0e1bf23b4498", func := "loop.example/g00769/laws.FnExactSpread", spec := "fnExactSpread", unfollowed := true, recurses := true, apart := false }
def FnExactSpreadSaid : Prop := fnExactSpreadRow.holds Try.pinned (OpenSpec.ofChange fnExactSpreadSpec)

/-- ITS FALSE NEIGHBOUR: 'it returns false'. Refute it at one input. -/
def fnExactSpreadWrong : ChangeSpec := { name := "fnExactSpread", fn := fun _ => fun
  | [d] => { results := [.lit (.bool false)], args := [d] }
  | _ => none }
def FnExactSpreadWrongFalsely : Prop := fnExactSpreadRow.holds Try.pinned (OpenSpec.ofChange fnExactSpreadWrong)

/-- 'laws.FnExactSlew': WHATEVER THE INPUT: true; the input reads as it did. -/
def fnExactSlewSpec : ChangeSpec := { name := "fnExactSlew", fn := fun _ => fun
  | [d1, d2, d3] => { results := [.lit (.bool true)], args := [d1, d2, d3] }
  | _ => none }
def fnExactSlewRow : OpenClaim := { program := "ytfkecldlhngjhaa", sum := "907f455e4956b1fd2b2c696846fec072ba024f1806c41ee902cf0e1bf23b4498", func := "loop.example/g00769/laws.FnExactSlew", spec := "fnExactSlew", unfollowed := true, recurses := true, apart := false }
def FnExactSlewSaid : Prop := fnExactSlewRow.holds Try.pinned (OpenSpec.ofChange fnExactSlewSpec)

/-- ITS FALSE NEIGHBOUR: 'it returns false'. Refute it at one input. -/
def fnExactSlewWrong : ChangeSpec := { name := "fnExactSlew", fn := fun _ => fun
  | [d1, d2, d3] => { results := [.lit (.bool false)], args := [d1, d2, d3] }
  | _ => none }
def FnExactSlewWrongFalsely : Prop := fnExactSlewRow.holds Try.pinned (OpenSpec.ofChange fnExactSlewWrong)

/-- 'laws.FnExactAgree': WHATEVER THE INPUT: true; the input reads as it did. -/
def fnExactAgreeSpec : ChangeSpec := { name := "fnExactAgree", fn := fun _ => fun
  | [d1, d2] => { results := [.lit (.bool true)], args := [d1, d2] }
  | _ => none }
def fnExactAgreeRow : OpenClaim := { program := "ytfkecldlhngjhaa", sum := "907f455e4956b1fd2b2c696846fec072ba024f1806c41ee902cf0e1bf23b4498", func := "loop.example/g00769/laws.FnExactAgree", spec := "fnExactAgree", unfollowed := true, recurses := true, apart := false }
def FnExactAgreeSaid : Prop := fnExactAgreeRow.holds Try.pinned (OpenSpec.ofChange fnExactAgreeSpec)

/-- ITS FALSE NEIGHBOUR: 'it returns false'. Refute it at one input. -/
def fnExactAgreeWrong : ChangeSpec := { name := "fnExactAgree", fn := fun _ => fun
  | [d1, d2] => { results := [.lit (.bool false)], args := [d1, d2] }
  | _ => none }
def FnExactAgreeWrongFalsely : Prop := fnExactAgreeRow.holds Try.pinned (OpenSpec.ofChange fnExactAgreeWrong)

/-- 'laws.FnExactLockGood': WHATEVER THE INPUT: true; the input reads as it did. -/
def fnExactLockGoodSpec : ChangeSpec := { name := "fnExactLockGood", fn := fun _ => fun
  | [d1, d2, d3] => { results := [.lit (.bool true)], args := [d1, d2, d3] }
  | _ => none }
def fnExactLockGoodRow : OpenClaim := { program := "ytfkecldlhngjhaa", sum := "907f455e4956b1fd2b2c696846fec072ba024f1806c41ee902cf0e1bf23b4498", func := "loop.example/g00769/laws.FnExactLockGood", spec := "fnExactLockGood", apart := false }
def FnExactLockGoodSaid : Prop := fnExactLockGoodRow.holds Try.pinned (OpenSpec.ofChange fnExactLockGoodSpec)

/-- ITS FALSE NEIGHBOUR: 'it returns false'. Refute it at one input. -/
def fnExactLockGoodWrong : ChangeSpec := { name := "fnExactLockGood", fn := fun _ => fun
  | [d1, d2, d3] => { results := [.lit (.bool false)], args := [d1, d2, d3] }
  | _ => none }
def FnExactLockGoodWrongFalsely : Prop := fnExactLockGoodRow.holds Try.pinned (OpenSpec.ofChange fnExactLockGoodWrong)

/-- 'laws.FnExactLockFail': WHATEVER THE INPUT: true; the input reads as it did. -/
def fnExactLockFailSpec : ChangeSpec := { name := "fnExactLockFail", fn := fun _ => fun
  | [d1, d2, d3] => { results := [.lit (.bool true)], args := [d1, d2, d3] }
  | _ => none }
def fnExactLockFailRow : OpenClaim := { program := "ytfkecldlhngjhaa", sum := "907f455e4956b1fd2b2c696846fec072ba024f1806c41ee902cf0e1bf23b4498", func := "loop.example/g00769/laws.FnExactLockFail", spec := "fnExactLockFail", apart := false }
def FnExactLockFailSaid : Prop := fnExactLockFailRow.holds Try.pinned (OpenSpec.ofChange fnExactLockFailSpec)

/-- ITS FALSE NEIGHBOUR: 'it returns false'. Refute it at one input. -/
def fnExactLockFailWrong : ChangeSpec := { name := "fnExactLockFail", fn := fun _ => fun
  | [d1, d2, d3] => { results := [.lit (.bool false)], args := [d1, d2, d3] }
  | _ => none }
def FnExactLockFailWrongFalsely : Prop := fnExactLockFailRow.holds Try.pinned (OpenSpec.ofChange fnExactLockFailWrong)

/-- 'laws.FnLocks': WHATEVER THE INPUT: true; the input reads as it did. -/
def fnLocksSpec : ChangeSpec := { name := "fnLocks", fn := fun _ => fun
  | [d] => { results := [.lit (.bool true)], args := [d] }
  | _ => none }
def fnLocksRow : OpenClaim := { program := "ytfkecldlhngjhaa", sum := "907f455e4956b1fd2b2c696846fec072ba024f1806c41ee902cf0e1bf23b4498", func := "loop.example/g00769/laws.FnLocks", spec := "fnLocks", apart := false }
def FnLocksSaid : Prop := fnLocksRow.holds Try.pinned (OpenSpec.ofChange fnLocksSpec)

/-- ITS FALSE NEIGHBOUR: 'it returns false'. Refute it at one input. -/
def fnLocksWrong : ChangeSpec := { name := "fnLocks", fn := fun _ => fun
  | [d] => { results := [.lit (.bool false)], args := [d] }
  | _ => none }
def FnLocksWrongFalsely : Prop := fnLocksRow.holds Try.pinned (OpenSpec.ofChange fnLocksWrong)

/-- 'laws.FnClocks': WHATEVER THE INPUT: true; the input reads as it did. -/
def fnClocksSpec : ChangeSpec := { name := "fnClocks", fn := fun _ => fun
  | [d] => { results := [.lit (.bool true)], args := [d] }
  | _ => none }
def fnClocksRow : OpenClaim := { program := "ytfkecldlhngjhaa", sum := "907f455e4956b1fd2b2c696846fec072ba024f1806c41ee902cf0e1bf23b4498", func := "loop.example/g00769/laws.FnClocks", spec := "fnClocks", unfollowed := true, recurses := true, apart := false }
def FnClocksSaid : Prop := fnClocksRow.holds Try.pinned (OpenSpec.ofChange fnClocksSpec)

/-- ITS FALSE NEIGHBOUR: 'it returns false'. Refute it at one input. -/
def fnClocksWrong : ChangeSpec := { name := "fnClocks", fn := fun _ => fun
  | [d] => { results := [.lit (.bool false)], args := [d] }
  | _ => none }
def FnClocksWrongFalsely : Prop := fnClocksRow.holds Try.pinned (OpenSpec.ofChange fnClocksWrong)

/- THE SECOND FORM. 'bulk': how many values and letters a reading holds, each counted each time it is reached (what is shared counts as often as it is met; a slice's spare places count too). A statement '..UptoSaid' is the law's where the arguments, and the package variables that the reading takes, are together of bulk at most 1048576: NARROWER than '..Said'. Prove '..Said' where nothing that the law and all that it calls make is longer than what came in: it says more and counts as full. Else prove '..UptoSaid'. A law counts once. -/
mutual
def uptoBulk {H : Type} : DataW H → Nat
  | .lit (.string bytes) => bytes.length + 1
  | .lit _ => 1
  | .nil => 1
  | .ptr d => uptoBulk d + 1
  | .slice elems spare => uptoBulkAll elems + uptoBulkAll spare + 1
  | .agg parts => uptoBulkAll parts + 1
  | .iface _ d => uptoBulk d + 1
  | .map entries => uptoBulkEntries entries + 1
  | .held _ => 1
def uptoBulkAll {H : Type} : List (DataW H) → Nat
  | [] => 0
  | d :: r => uptoBulk d + uptoBulkAll r
def uptoBulkEntries {H : Type} : List (Lit × DataW H) → Nat
  | [] => 0
  | x :: r => uptoBulkEntry x + uptoBulkEntries r
def uptoBulkEntry {H : Type} : Lit × DataW H → Nat
  | (.string bytes, d) => bytes.length + uptoBulk d + 1
  | (_, d) => uptoBulk d + 1
 end
def uptoSmall : (H : Type) → List (DataW H) → Bool := fun _ ds => decide (uptoBulkAll ds ≤ 1048576)
def OpenSpec.upto (s : _root_.Go.ChangeSpec) : _root_.Go.OpenSpec := { _root_.Go.OpenSpec.ofChange s with cond := some uptoSmall }

/-- 'laws.FnExactClocksOk', WHERE WHAT IT READS IS OF BULK AT MOST 1048576: true; the input reads as it did. -/
def fnExactClocksOkUptoRow : OpenClaim := { program := "ytfkecldlhngjhaa", sum := "907f455e4956b1fd2b2c696846fec072ba024f1806c41ee902cf0e1bf23b4498", func := "loop.example/g00769/laws.FnExactClocksOk", spec := "fnExactClocksOk", unfollowed := true, recurses := true, apart := false, narrowed := true }
def FnExactClocksOkUptoSaid : Prop := fnExactClocksOkUptoRow.holds Try.pinned (OpenSpec.upto fnExactClocksOkSpec)

/-- 'laws.FnExactLockedAt', WHERE WHAT IT READS IS OF BULK AT MOST 1048576: true; the input reads as it did. -/
def fnExactLockedAtUptoRow : OpenClaim := { program := "ytfkecldlhngjhaa", sum := "907f455e4956b1fd2b2c696846fec072ba024f1806c41ee902cf0e1bf23b4498", func := "loop.example/g00769/laws.FnExactLockedAt", spec := "fnExactLockedAt", apart := false, narrowed := true }
def FnExactLockedAtUptoSaid : Prop := fnExactLockedAtUptoRow.holds Try.pinned (OpenSpec.upto fnExactLockedAtSpec)

/-- 'laws.FnExactLocalAt', WHERE WHAT IT READS IS OF BULK AT MOST 1048576: true; the input reads as it did. -/
def fnExactLocalAtUptoRow : OpenClaim := { program := "ytfkecldlhngjhaa", sum := "907f455e4956b1fd2b2c696846fec072ba024f1806c41ee902cf0e1bf23b4498", func := "loop.example/g00769/laws.FnExactLocalAt", spec := "fnExactLocalAt", unfollowed := true, recurses := true, apart := false, narrowed := true }
def FnExactLocalAtUptoSaid : Prop := fnExactLocalAtUptoRow.holds Try.pinned (OpenSpec.upto fnExactLocalAtSpec)

/-- 'laws.FnLock', WHERE WHAT IT READS IS OF BULK AT MOST 1048576: true; the input reads as it did. -/
def fnLockUptoRow : OpenClaim := { program := "ytfkecldlhngjhaa", sum := "907f455e4956b1fd2b2c696846fec072ba024f1806c41ee902cf0e1bf23b4498", func := "loop.example/g00769/laws.FnLock", spec := "fnLock", apart := false, narrowed := true }
def FnLockUptoSaid : Prop := fnLockUptoRow.holds Try.pinned (OpenSpec.upto fnLockSpec)

/-- 'laws.FnExactLockOk', WHERE WHAT IT READS IS OF BULK AT MOST 1048576: true; the input reads as it did. -/
def fnExactLockOkUptoRow : OpenClaim := { program := "ytfkecldlhngjhaa", sum := "907f455e4956b1fd2b2c696846fec072ba024f1806c41ee902cf0e1bf23b4498", func := "loop.example/g00769/laws.FnExactLockOk", spec := "fnExactLockOk", apart := false, narrowed := true }
def FnExactLockOkUptoSaid : Prop := fnExactLockOkUptoRow.holds Try.pinned (OpenSpec.upto fnExactLockOkSpec)

/-- 'laws.FnExactSpread', WHERE WHAT IT READS IS OF BULK AT MOST 1048576: true; the input reads as it did. -/
def fnExactSpreadUptoRow : OpenClaim := { program := "ytfkecldlhngjhaa", sum := "907f455e4956b1fd2b2c696846fec072ba024f1806c41ee902cf0e1bf23b4498", func := "loop.example/g00769/laws.FnExactSpread", spec := "fnExactSpread", unfollowed := true, recurses := true, apart := false, narrowed := true }
def FnExactSpreadUptoSaid : Prop := fnExactSpreadUptoRow.holds Try.pinned (OpenSpec.upto fnExactSpreadSpec)

/-- 'laws.FnExactSlew', WHERE WHAT IT READS IS OF BULK AT MOST 1048576: true; the input reads as it did. -/
def fnExactSlewUptoRow : OpenClaim := { program := "ytfkecldlhngjhaa", sum := "907f455e4956b1fd2b2c696846fec072ba024f1806c41ee902cf0e1bf23b4498", func := "loop.example/g00769/laws.FnExactSlew", spec := "fnExactSlew", unfollowed := true, recurses := true, apart := false, narrowed := true }
def FnExactSlewUptoSaid : Prop := fnExactSlewUptoRow.holds Try.pinned (OpenSpec.upto fnExactSlewSpec)

/-- 'laws.FnExactAgree', WHERE WHAT IT READS IS OF BULK AT MOST 1048576: true; the input reads as it did. -/
def fnExactAgreeUptoRow : OpenClaim := { program := "ytfkecldlhngjhaa", sum := "907f455e4956b1fd2b2c696846fec072ba024f1806c41ee902cf0e1bf23b4498", func := "loop.example/g00769/laws.FnExactAgree", spec := "fnExactAgree", unfollowed := true, recurses := true, apart := false, narrowed := true }
def FnExactAgreeUptoSaid : Prop := fnExactAgreeUptoRow.holds Try.pinned (OpenSpec.upto fnExactAgreeSpec)

/-- 'laws.FnExactLockGood', WHERE WHAT IT READS IS OF BULK AT MOST 1048576: true; the input reads as it did. -/
def fnExactLockGoodUptoRow : OpenClaim := { program := "ytfkecldlhngjhaa", sum := "907f455e4956b1fd2b2c696846fec072ba024f1806c41ee902cf0e1bf23b4498", func := "loop.example/g00769/laws.FnExactLockGood", spec := "fnExactLockGood", apart := false, narrowed := true }
def FnExactLockGoodUptoSaid : Prop := fnExactLockGoodUptoRow.holds Try.pinned (OpenSpec.upto fnExactLockGoodSpec)

/-- 'laws.FnExactLockFail', WHERE WHAT IT READS IS OF BULK AT MOST 1048576: true; the input reads as it did. -/
def fnExactLockFailUptoRow : OpenClaim := { program := "ytfkecldlhngjhaa", sum := "907f455e4956b1fd2b2c696846fec072ba024f1806c41ee902cf0e1bf23b4498", func := "loop.example/g00769/laws.FnExactLockFail", spec := "fnExactLockFail", apart := false, narrowed := true }
def FnExactLockFailUptoSaid : Prop := fnExactLockFailUptoRow.holds Try.pinned (OpenSpec.upto fnExactLockFailSpec)

/-- 'laws.FnLocks', WHERE WHAT IT READS IS OF BULK AT MOST 1048576: true; the input reads as it did. -/
def fnLocksUptoRow : OpenClaim := { program := "ytfkecldlhngjhaa", sum := "907f455e4956b1fd2b2c696846fec072ba024f1806c41ee902cf0e1bf23b4498", func := "loop.example/g00769/laws.FnLocks", spec := "fnLocks", apart := false, narrowed := true }
def FnLocksUptoSaid : Prop := fnLocksUptoRow.holds Try.pinned (OpenSpec.upto fnLocksSpec)

/-- 'laws.FnClocks', WHERE WHAT IT READS IS OF BULK AT MOST 1048576: true; the input reads as it did. -/
def fnClocksUptoRow : OpenClaim := { program := "ytfkecldlhngjhaa", sum := "907f455e4956b1fd2b2c696846fec072ba024f1806c41ee902cf0e1bf23b4498", func := "loop.example/g00769/laws.FnClocks", spec := "fnClocks", unfollowed := true, recurses := true, apart := false, narrowed := true }
def FnClocksUptoSaid : Prop := fnClocksUptoRow.holds Try.pinned (OpenSpec.upto fnClocksSpec)

end Rows
end Go.Proofs.Ytfkecldlhngjhaa
