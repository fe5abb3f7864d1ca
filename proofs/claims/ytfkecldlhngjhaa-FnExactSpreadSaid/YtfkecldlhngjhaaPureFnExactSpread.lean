/- The program's Spread answers what the reference's answers, for every list of numbers, and leaves the list as it was. Conditions: none beside those of the given row. -/
import Derived.Test.YtfkecldlhngjhaaClocks2
import Derived.Test.YtfkecldlhngjhaaXAf33
import Derived.Test.YtfkecldlhngjhaaXAf34
import Derived.Test.YtfkecldlhngjhaaXAf8
set_option linter.unusedSimpArgs false
namespace Go.Proofs.Ytfkecldlhngjhaa.Pure
open Go.RowKit Go.Proofs.Ytfkecldlhngjhaa.XA Go.Proofs.YtfkecldlhngjhaaW.PrintWords Go.Proofs.Ytfkecldlhngjhaa.K Go.Proofs.Ytfkecldlhngjhaa.Ints

theorem FnExactSpread : laws_FnExactSpread.Pure := by
  intro l hm h8 hw
  refine Ev.rounds (g := fun k => laws_FnExactSpread.f k l) ?_
  unfold laws_FnExactSpread.f
  by_cases h : (l.length : Int) > 1048576
  · simp only [h, if_true]
    exact Ev.now _
  · simp only [h, if_false]
    refine Ev.bind (toIntS l (by omega)) ?_
    refine Ev.bind (Clocks.spec_Spread l (by omega)) ?_
    refine Ev.bind (toIntS l (by omega)) ?_
    refine Ev.bind (Clocks.impl_Spread l (by omega)) ?_
    simp only [if_true]
    refine Ev.bind (toIntS l (by omega)) ?_
    refine Ev.bind (eqIntS l l (by omega)) ?_
    simp only [decide_true, if_true]
    exact Ev.now _
end Go.Proofs.Ytfkecldlhngjhaa.Pure
