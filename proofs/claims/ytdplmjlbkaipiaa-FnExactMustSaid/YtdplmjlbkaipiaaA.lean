/- The types of the laws' parameters. -/
import Derived.Test.YtdplmjlbkaipiaaH1
import Derived.Test.YtdplmjlbkaipiaaRows
namespace Go.Proofs.Ytdplmjlbkaipiaa.Ev
set_option linter.all false
open Go
set_option maxRecDepth 100000
theorem bI : Bld Try.prog 3 1 (fun _ (n : Int) vs => vs = [.int .i64 n]) (fun n => (Lit.int .i64 n).wf = true) := Bld.int Try.underlying3 (by kernel_rfl)
theorem bHop : Bld Try.prog 71 2 (fun _ (h : Hop) vs => En eH h vs) (fun _ => True) :=
  (Bld.struct (t := 71) Try.underlying71 (by kernel_rfl) (SeqB.cons (off := 0) (off' := 1) bI rfl (SeqB.one bI))).conv (fun h => h)
    (fun M z vs ⟨u, v, e, a, b⟩ => by subst a; subst b; exact e) (fun _ h => h) (fun _ _ => trivial)
theorem aHops : ArgB Try.prog 22 (fun M (l : List Hop) v => Sl (En eH) 2 M v l) (fun _ => True) :=
  have h := ArgB.slice (t := 22) (e := 71) Try.underlying22 (by kernel_rfl) bHop
  ⟨h.mono, fun a b J M r => by
    obtain ⟨J', M', u, z, a1, a2, a3, a4, _⟩ := h.arg a b J M r
    exact ⟨J', M', u, z, a1, a2, a3, a4, trivial⟩⟩
end Go.Proofs.Ytdplmjlbkaipiaa.Ev
