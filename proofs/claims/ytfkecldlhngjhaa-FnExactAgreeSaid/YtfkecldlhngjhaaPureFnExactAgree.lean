/- The program's Agree answers what the reference's answers, for all arguments, in new memory, and leaves the arguments as they were. Conditions: none beside those of the given row. -/
import Derived.Test.YtfkecldlhngjhaaAgree
import Derived.Test.YtfkecldlhngjhaaXAf10
import Derived.Test.YtfkecldlhngjhaaXAf38
import Derived.Test.YtfkecldlhngjhaaXAf39
import Derived.Test.YtfkecldlhngjhaaXAf40
set_option linter.unusedSimpArgs false
namespace Go.Proofs.Ytfkecldlhngjhaa.Pure
open Go.RowKit Go.Proofs.Ytfkecldlhngjhaa.XA Go.Proofs.YtfkecldlhngjhaaW.PrintWords Go.Proofs.Ytfkecldlhngjhaa.K Go.Proofs.Ytfkecldlhngjhaa.Ints

theorem FnExactAgree : laws_FnExactAgree.Pure := by
  intro l m hm h8 hw hn
  refine Ev.rounds (g := fun k => laws_FnExactAgree.f k l m) ?_
  unfold laws_FnExactAgree.f
  by_cases h : (l.length : Int) > 1048576
  · simp only [h, if_true]
    exact Ev.now _
  · simp only [h, if_false]
    have hl := Clocks.agree_length l m
    generalize hr : Clocks.agree l m = r at hl
    have h1 : Ev (fun k => spec_Agree.f k l m) r := hr ▸ Clocks.spec_Agree l m (by omega)
    have h2 : Ev (fun k => impl_Agree.f k l m) r := hr ▸ Clocks.impl_Agree l m (by omega)
    refine Ev.bind (toIntS l (by omega)) ?_
    refine Ev.bind h1 ?_
    refine Ev.bind (toIntS l (by omega)) ?_
    refine Ev.bind h2 ?_
    refine Ev.bind (eqIntS r r (by omega)) ?_
    simp only [decide_true, if_true]
    refine Ev.bind (toIntS l (by omega)) ?_
    refine Ev.bind (eqIntS l l (by omega)) ?_
    simp only [decide_true, if_true]
    refine Ev.bind (markIntS l 1 (by omega) (by omega) (by omega)) ?_
    simp only [show ¬ ((1 : Int) + (l.length : Int) < 0) by omega, if_false]
    refine Ev.bind (eqIntS r r (by omega)) ?_
    simp only [decide_true, if_true]
    refine Ev.bind (markIntS r 1 (by omega) (by omega) (by omega)) ?_
    have hh : Ev (fun k => laws_heldIntS.f k (marks 1 r.length) 1) (1 + (r.length : Int)) := by
      have := heldIntS (marks 1 r.length) 1 (by rw [marks_length]; omega) (by omega) (by omega) (by rw [marks_length])
      rwa [marks_length] at this
    refine Ev.bind hh ?_
    simp only [show ¬ ((1 : Int) + (r.length : Int) < 0) by omega, if_false, if_true]
    refine Ev.bind (toIntS l (by omega)) ?_
    refine Ev.bind h2 ?_
    refine Ev.bind (eqIntS r r (by omega)) ?_
    simp only [decide_true, if_true]
    refine Ev.bind hh ?_
    simp only [show ¬ ((1 : Int) + (r.length : Int) < 0) by omega, if_false, if_true]
    exact Ev.now _
end Go.Proofs.Ytfkecldlhngjhaa.Pure
