/- The types of the laws' parameters: numbers. -/
import Derived.Test.YtdplmjlbkaipiaaA
import Derived.Test.YtdplmjlbkaipiaaH4
namespace Go.Proofs.Ytdplmjlbkaipiaa.Ev
set_option linter.all false
open Go
set_option maxRecDepth 100000
theorem bInt : Bld Try.prog 3 1 (fun _ (n : Int) vs => En eI n vs) (fun n => (Lit.int .i64 n).wf = true) := bI.conv (fun n => n) (fun _ _ _ h => h) (fun _ h => h) (fun _ h => h)
theorem aInts : ArgB Try.prog 29 (fun M (l : List Int) v => SlI M v l) (fun l => ∀ x ∈ l, (Lit.int .i64 x).wf = true) :=
  have h := ArgB.slice (t := 29) (e := 3) Try.underlying29 (by kernel_rfl) bInt
  ⟨h.mono, fun a b J M r => by
    obtain ⟨J', M', u, z, a1, a2, a3, a4, a5⟩ := h.arg a b J M r
    exact ⟨J', M', u, z, a1, a2, a3, a4, a5.2⟩⟩
theorem aInt : ArgB Try.prog 3 (fun _ (n : Int) v => v = .int .i64 n) (fun n => (Lit.int .i64 n).wf = true) := ArgB.int Try.underlying3 (by kernel_rfl)
end Go.Proofs.Ytdplmjlbkaipiaa.Ev
