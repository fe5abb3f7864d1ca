/- The types of the laws' parameters: groups. -/
import Derived.Test.YtdplmjlbkaipiaaA2
import Derived.Test.YtdplmjlbkaipiaaH8
namespace Go.Proofs.Ytdplmjlbkaipiaa.Ev
set_option linter.all false
open Go
set_option maxRecDepth 100000
theorem bInts : Bld Try.prog 29 1 (fun M (l : List Int) vs => ∃ v, vs = [v] ∧ SlI M v l) (fun _ => True) :=
  (Bld.slice (t := 29) (e := 3) Try.underlying29 (by kernel_rfl) bInt).conv (fun l => l) (fun _ _ _ h => h) (fun hp ⟨v, e, h⟩ => ⟨v, e, h.pre hp⟩) (fun _ _ => trivial)
theorem bGroup : Bld Try.prog 80 2 (fun M (g : Group) vs => RG M g vs) (fun _ => True) :=
  (Bld.struct (t := 80) Try.underlying80 (by kernel_rfl) (SeqB.cons (off := 0) (off' := 1) bInts rfl (SeqB.one bInts))).conv (fun h => h)
    (fun M z vs ⟨u, v, e, ⟨a, ea, ha⟩, ⟨b, eb, hb⟩⟩ => ⟨a, b, by subst ea; subst eb; exact e, ha, hb⟩) (fun hp h => h.pre hp) (fun _ _ => trivial)
theorem aGroups : ArgB Try.prog 49 (fun M (l : List Group) v => SlG M v l) (fun _ => True) :=
  have h := ArgB.slice (t := 49) (e := 80) Try.underlying49 (by kernel_rfl) bGroup
  ⟨h.mono, fun a b J M r => by
    obtain ⟨J', M', u, z, a1, a2, a3, a4, _⟩ := h.arg a b J M r
    exact ⟨J', M', u, z, a1, a2, a3, a4, trivial⟩⟩
end Go.Proofs.Ytdplmjlbkaipiaa.Ev
