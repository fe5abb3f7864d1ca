/- The program's LocalAt answers what the reference's answers, for all arguments, and leaves them as they were. Conditions: none beside those of the given row. -/
import Derived.Test.YtfkecldlhngjhaaClocks
import Derived.Test.YtfkecldlhngjhaaXAf24
import Derived.Test.YtfkecldlhngjhaaXAf25
import Derived.Test.YtfkecldlhngjhaaXAf5
set_option linter.unusedSimpArgs false
namespace Go.Proofs.Ytfkecldlhngjhaa.Pure
open Go.RowKit Go.Proofs.Ytfkecldlhngjhaa.XA Go.Proofs.YtfkecldlhngjhaaW.PrintWords Go.Proofs.Ytfkecldlhngjhaa.K Go.Proofs.Ytfkecldlhngjhaa.Ints

theorem FnExactLocalAt : laws_FnExactLocalAt.Pure := by
  intro l i n hm h8 hw hi hn
  refine Ev.rounds (g := fun k => laws_FnExactLocalAt.f k l i n) ?_
  unfold laws_FnExactLocalAt.f
  by_cases h : (l.length : Int) > 1048576
  · simp only [h, if_true]
    exact Ev.now _
  · simp only [h, if_false]
    refine Ev.bind (toIntS l (by omega)) ?_
    refine Ev.bind (Clocks.spec_LocalAt l i n (by omega)) ?_
    refine Ev.bind (toIntS l (by omega)) ?_
    refine Ev.bind (Clocks.impl_LocalAt l i n (by omega)) ?_
    simp only [if_true]
    refine Ev.bind (toIntS l (by omega)) ?_
    refine Ev.bind (eqIntS l l (by omega)) ?_
    simp only [decide_true, if_true]
    exact Ev.now _
end Go.Proofs.Ytfkecldlhngjhaa.Pure
