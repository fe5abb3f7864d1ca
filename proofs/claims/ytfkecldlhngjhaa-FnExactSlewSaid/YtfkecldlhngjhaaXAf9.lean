-- Written by xprint.py, this session's program over the kit's print
import Derived.Test.YtfkecldlhngjhaaXA0
import Derived.Test.YtfkecldlhngjhaaXAf16
import Derived.Test.YtfkecldlhngjhaaXAf18
import Derived.Test.YtfkecldlhngjhaaXAf35
import Derived.Test.YtfkecldlhngjhaaXAf36
import Derived.Test.YtfkecldlhngjhaaXAf37
import Derived.Test.YtfkecldlhngjhaaXAf38
namespace Go.Proofs.Ytfkecldlhngjhaa.XA
open Go.RowKit Go.Proofs.YtfkecldlhngjhaaW.PrintWords Go.Proofs.YtfkecldlhngjhaaW.PrintLast Go.Proofs.YtfkecldlhngjhaaW.PrintMore
attribute [local go_sem] max2_int min2_int max_two min_two max_three min_three max_four min_four   -- for this text's walks alone
set_option linter.unusedVariables false
set_option linter.unusedSimpArgs false

/-! ### laws_FnExactSlew: function 9 -/
def laws_FnExactSlew.f (k : Nat) (l0 : List Int) (a1 : Int) (a2 : Int) : Option (Bool) := if (l0.length : Int) > 1048576 then (some true) else ((laws_toIntS.f k l0).bind fun t101 => ((spec_Slew.f k t101 a1 a2).bind fun t104 => ((laws_toIntS.f k l0).bind fun t107 => ((impl_Slew.f k t107 a1 a2).bind fun t110 => ((laws_eqIntS.f k t110 t104).bind fun t113 => (if t113 = true then ((laws_toIntS.f k l0).bind fun t114 => ((laws_eqIntS.f k t107 t114).bind fun t117 => (if t117 = true then ((laws_markIntS.f k t107 1).bind fun bt118 => (if bt118.1 < 0 then (some false) else ((laws_eqIntS.f k t110 t104).bind fun t120 => (if t120 = true then ((laws_markIntS.f k t110 1).bind fun bt121 => ((laws_heldIntS.f k bt121.2 1).bind fun t123 => (if t123 < 0 then (some false) else (if t123 = bt121.1 then ((laws_toIntS.f k l0).bind fun t124 => ((impl_Slew.f k t124 a1 a2).bind fun t127 => ((laws_eqIntS.f k t127 t104).bind fun t130 => (if t130 = true then ((laws_heldIntS.f k bt121.2 1).bind fun t131 => (if t131 < 0 then (some false) else (if t131 = bt121.1 then (some true) else (some false)))) else (some false))))) else (some false))))) else (some false))))) else (some false)))) else (some false)))))))
theorem laws_FnExactSlew.mono : ∀ a0 a1 a2 k, LeO (laws_FnExactSlew.f k a0 a1 a2) (laws_FnExactSlew.f (k + 1) a0 a1 a2) := by
 intro a0 a1 a2 k
 unfold laws_FnExactSlew.f
 repeat' first
   | (with_reducible exact impl_Slew.mono _ _ _ _)
   | (with_reducible exact laws_eqIntS.mono _ _ _)
   | (with_reducible exact laws_heldIntS.mono _ _ _)
   | (with_reducible exact laws_markIntS.mono _ _ _)
   | (with_reducible exact laws_toIntS.mono _ _)
   | (with_reducible exact spec_Slew.mono _ _ _ _)
   | (with_reducible exact LeO.refl _)
   | (with_reducible exact LeO.none _)
   | (with_reducible refine LeO.ite ?_ ?_)
   | (with_reducible refine LeO.bind ?_ (fun _ => ?_))
   | exact impl_Slew.mono _ _ _ _
   | exact laws_eqIntS.mono _ _ _
   | exact laws_heldIntS.mono _ _ _
   | exact laws_markIntS.mono _ _ _
   | exact laws_toIntS.mono _ _
   | exact spec_Slew.mono _ _ _ _
   | exact LeO.none _
   | refine LeO.ite ?_ ?_
   | refine LeO.bind ?_ (fun _ => ?_)
set_option maxHeartbeats 8000000 in
set_option maxRecDepth 100000 in
theorem laws_FnExactSlew.calls (k : Nat) (A0 : Option Addr) (c0 : Nat) (l0 : List Int) (a1 : Int) (a2 : Int) (r : Bool) (w : World) (hr0 : Kd.C (Kd.int .i64) w A0 l0.length l0) (hc0 : l0.length ≤ c0) (hrt : r = true) (h : laws_FnExactSlew.f k l0 a1 a2 = some r) :
  Calls Try.prog 9 #[.slice A0 l0.length c0, .int .i64 a1, .int .i64 a2] w fun e w' => e = .returned (.bool r) ∧ Below w.heap.size w w' := by
 have HR0 := Aside0.mk hr0
 have HC0 := Aside0.mk hc0
 clear hr0 hc0
 have HB := Aside0.mk (Below.refl w.heap.size w)
 have H : (if (l0.length : Int) > 1048576 then (some true) else ((laws_toIntS.f k l0).bind fun t101 => ((spec_Slew.f k t101 a1 a2).bind fun t104 => ((laws_toIntS.f k l0).bind fun t107 => ((impl_Slew.f k t107 a1 a2).bind fun t110 => ((laws_eqIntS.f k t110 t104).bind fun t113 => (if t113 = true then ((laws_toIntS.f k l0).bind fun t114 => ((laws_eqIntS.f k t107 t114).bind fun t117 => (if t117 = true then ((laws_markIntS.f k t107 1).bind fun bt118 => (if bt118.1 < 0 then (some false) else ((laws_eqIntS.f k t110 t104).bind fun t120 => (if t120 = true then ((laws_markIntS.f k t110 1).bind fun bt121 => ((laws_heldIntS.f k bt121.2 1).bind fun t123 => (if t123 < 0 then (some false) else (if t123 = bt121.1 then ((laws_toIntS.f k l0).bind fun t124 => ((impl_Slew.f k t124 a1 a2).bind fun t127 => ((laws_eqIntS.f k t127 t104).bind fun t130 => (if t130 = true then ((laws_heldIntS.f k bt121.2 1).bind fun t131 => (if t131 < 0 then (some false) else (if t131 = bt121.1 then (some true) else (some false)))) else (some false))))) else (some false))))) else (some false))))) else (some false)))) else (some false)))))))) = some r := h
 clear h
 by_cases c4 : (l0.length : Int) > 1048576
 ·
  rw [if_pos c4] at H
  have c4b0 : decide (1048576 < (l0.length : Int)) = true := decide_eq_true c4
  have c4b1 : decide (1048576 < l0.length) = true := decide_eq_true (by omega)
  clear c4
  obtain rfl := Option.some.inj H
  go_enter Try.func9, Try.ntmps9
  go_wp2
  go_ret
  exact ⟨by first | rfl | (simp [errW_none, errW_some] <;> rfl) | (simp [*, errW_none, errW_some] <;> rfl), by repeat (first | (with_reducible first | exact HB.out | apply below_alloc | apply pw_below_drewN | apply below_drew1) | exact HB.out)⟩
 ·
  rw [if_neg c4] at H
  have c4b0 : decide (1048576 < (l0.length : Int)) = false := decide_eq_false c4
  have c4b1 : decide (1048576 < l0.length) = false := decide_eq_false (by omega)
  clear c4
  replace H := Option.bind_eq_some_iff.mp H
  obtain ⟨t101, A50, H⟩ := H
  replace H : ((spec_Slew.f k t101 a1 a2).bind fun t104 => ((laws_toIntS.f k l0).bind fun t107 => ((impl_Slew.f k t107 a1 a2).bind fun t110 => ((laws_eqIntS.f k t110 t104).bind fun t113 => (if t113 = true then ((laws_toIntS.f k l0).bind fun t114 => ((laws_eqIntS.f k t107 t114).bind fun t117 => (if t117 = true then ((laws_markIntS.f k t107 1).bind fun bt118 => (if bt118.1 < 0 then (some false) else ((laws_eqIntS.f k t110 t104).bind fun t120 => (if t120 = true then ((laws_markIntS.f k t110 1).bind fun bt121 => ((laws_heldIntS.f k bt121.2 1).bind fun t123 => (if t123 < 0 then (some false) else (if t123 = bt121.1 then ((laws_toIntS.f k l0).bind fun t124 => ((impl_Slew.f k t124 a1 a2).bind fun t127 => ((laws_eqIntS.f k t127 t104).bind fun t130 => (if t130 = true then ((laws_heldIntS.f k bt121.2 1).bind fun t131 => (if t131 < 0 then (some false) else (if t131 = bt121.1 then (some true) else (some false)))) else (some false))))) else (some false))))) else (some false))))) else (some false)))) else (some false)))))) = some r := H
  have A5 := Aside0.mk A50
  clear A50
  replace H := Option.bind_eq_some_iff.mp H
  obtain ⟨t104, A60, H⟩ := H
  replace H : ((laws_toIntS.f k l0).bind fun t107 => ((impl_Slew.f k t107 a1 a2).bind fun t110 => ((laws_eqIntS.f k t110 t104).bind fun t113 => (if t113 = true then ((laws_toIntS.f k l0).bind fun t114 => ((laws_eqIntS.f k t107 t114).bind fun t117 => (if t117 = true then ((laws_markIntS.f k t107 1).bind fun bt118 => (if bt118.1 < 0 then (some false) else ((laws_eqIntS.f k t110 t104).bind fun t120 => (if t120 = true then ((laws_markIntS.f k t110 1).bind fun bt121 => ((laws_heldIntS.f k bt121.2 1).bind fun t123 => (if t123 < 0 then (some false) else (if t123 = bt121.1 then ((laws_toIntS.f k l0).bind fun t124 => ((impl_Slew.f k t124 a1 a2).bind fun t127 => ((laws_eqIntS.f k t127 t104).bind fun t130 => (if t130 = true then ((laws_heldIntS.f k bt121.2 1).bind fun t131 => (if t131 < 0 then (some false) else (if t131 = bt121.1 then (some true) else (some false)))) else (some false))))) else (some false))))) else (some false))))) else (some false)))) else (some false))))) = some r := H
  have A6 := Aside0.mk A60
  clear A60
  replace H := Option.bind_eq_some_iff.mp H
  obtain ⟨t107, A70, H⟩ := H
  replace H : ((impl_Slew.f k t107 a1 a2).bind fun t110 => ((laws_eqIntS.f k t110 t104).bind fun t113 => (if t113 = true then ((laws_toIntS.f k l0).bind fun t114 => ((laws_eqIntS.f k t107 t114).bind fun t117 => (if t117 = true then ((laws_markIntS.f k t107 1).bind fun bt118 => (if bt118.1 < 0 then (some false) else ((laws_eqIntS.f k t110 t104).bind fun t120 => (if t120 = true then ((laws_markIntS.f k t110 1).bind fun bt121 => ((laws_heldIntS.f k bt121.2 1).bind fun t123 => (if t123 < 0 then (some false) else (if t123 = bt121.1 then ((laws_toIntS.f k l0).bind fun t124 => ((impl_Slew.f k t124 a1 a2).bind fun t127 => ((laws_eqIntS.f k t127 t104).bind fun t130 => (if t130 = true then ((laws_heldIntS.f k bt121.2 1).bind fun t131 => (if t131 < 0 then (some false) else (if t131 = bt121.1 then (some true) else (some false)))) else (some false))))) else (some false))))) else (some false))))) else (some false)))) else (some false)))) = some r := H
  have A7 := Aside0.mk A70
  clear A70
  replace H := Option.bind_eq_some_iff.mp H
  obtain ⟨t110, A80, H⟩ := H
  replace H : ((laws_eqIntS.f k t110 t104).bind fun t113 => (if t113 = true then ((laws_toIntS.f k l0).bind fun t114 => ((laws_eqIntS.f k t107 t114).bind fun t117 => (if t117 = true then ((laws_markIntS.f k t107 1).bind fun bt118 => (if bt118.1 < 0 then (some false) else ((laws_eqIntS.f k t110 t104).bind fun t120 => (if t120 = true then ((laws_markIntS.f k t110 1).bind fun bt121 => ((laws_heldIntS.f k bt121.2 1).bind fun t123 => (if t123 < 0 then (some false) else (if t123 = bt121.1 then ((laws_toIntS.f k l0).bind fun t124 => ((impl_Slew.f k t124 a1 a2).bind fun t127 => ((laws_eqIntS.f k t127 t104).bind fun t130 => (if t130 = true then ((laws_heldIntS.f k bt121.2 1).bind fun t131 => (if t131 < 0 then (some false) else (if t131 = bt121.1 then (some true) else (some false)))) else (some false))))) else (some false))))) else (some false))))) else (some false)))) else (some false))) = some r := H
  have A8 := Aside0.mk A80
  clear A80
  replace H := Option.bind_eq_some_iff.mp H
  obtain ⟨t113, A90, H⟩ := H
  replace H : (if t113 = true then ((laws_toIntS.f k l0).bind fun t114 => ((laws_eqIntS.f k t107 t114).bind fun t117 => (if t117 = true then ((laws_markIntS.f k t107 1).bind fun bt118 => (if bt118.1 < 0 then (some false) else ((laws_eqIntS.f k t110 t104).bind fun t120 => (if t120 = true then ((laws_markIntS.f k t110 1).bind fun bt121 => ((laws_heldIntS.f k bt121.2 1).bind fun t123 => (if t123 < 0 then (some false) else (if t123 = bt121.1 then ((laws_toIntS.f k l0).bind fun t124 => ((impl_Slew.f k t124 a1 a2).bind fun t127 => ((laws_eqIntS.f k t127 t104).bind fun t130 => (if t130 = true then ((laws_heldIntS.f k bt121.2 1).bind fun t131 => (if t131 < 0 then (some false) else (if t131 = bt121.1 then (some true) else (some false)))) else (some false))))) else (some false))))) else (some false))))) else (some false)))) else (some false)) = some r := H
  have A9 := Aside0.mk A90
  clear A90
  by_cases c10 : t113 = true
  ·
   subst c10
   have H1 : ((laws_toIntS.f k l0).bind fun t114 => ((laws_eqIntS.f k t107 t114).bind fun t117 => (if t117 = true then ((laws_markIntS.f k t107 1).bind fun bt118 => (if bt118.1 < 0 then (some false) else ((laws_eqIntS.f k t110 t104).bind fun t120 => (if t120 = true then ((laws_markIntS.f k t110 1).bind fun bt121 => ((laws_heldIntS.f k bt121.2 1).bind fun t123 => (if t123 < 0 then (some false) else (if t123 = bt121.1 then ((laws_toIntS.f k l0).bind fun t124 => ((impl_Slew.f k t124 a1 a2).bind fun t127 => ((laws_eqIntS.f k t127 t104).bind fun t130 => (if t130 = true then ((laws_heldIntS.f k bt121.2 1).bind fun t131 => (if t131 < 0 then (some false) else (if t131 = bt121.1 then (some true) else (some false)))) else (some false))))) else (some false))))) else (some false))))) else (some false)))) = some r := by rw [if_pos rfl] at H; exact H
   clear H
   have H := H1
   clear H1
   replace H := Option.bind_eq_some_iff.mp H
   obtain ⟨t114, A110, H⟩ := H
   replace H : ((laws_eqIntS.f k t107 t114).bind fun t117 => (if t117 = true then ((laws_markIntS.f k t107 1).bind fun bt118 => (if bt118.1 < 0 then (some false) else ((laws_eqIntS.f k t110 t104).bind fun t120 => (if t120 = true then ((laws_markIntS.f k t110 1).bind fun bt121 => ((laws_heldIntS.f k bt121.2 1).bind fun t123 => (if t123 < 0 then (some false) else (if t123 = bt121.1 then ((laws_toIntS.f k l0).bind fun t124 => ((impl_Slew.f k t124 a1 a2).bind fun t127 => ((laws_eqIntS.f k t127 t104).bind fun t130 => (if t130 = true then ((laws_heldIntS.f k bt121.2 1).bind fun t131 => (if t131 < 0 then (some false) else (if t131 = bt121.1 then (some true) else (some false)))) else (some false))))) else (some false))))) else (some false))))) else (some false))) = some r := H
   have A11 := Aside0.mk A110
   clear A110
   replace H := Option.bind_eq_some_iff.mp H
   obtain ⟨t117, A120, H⟩ := H
   replace H : (if t117 = true then ((laws_markIntS.f k t107 1).bind fun bt118 => (if bt118.1 < 0 then (some false) else ((laws_eqIntS.f k t110 t104).bind fun t120 => (if t120 = true then ((laws_markIntS.f k t110 1).bind fun bt121 => ((laws_heldIntS.f k bt121.2 1).bind fun t123 => (if t123 < 0 then (some false) else (if t123 = bt121.1 then ((laws_toIntS.f k l0).bind fun t124 => ((impl_Slew.f k t124 a1 a2).bind fun t127 => ((laws_eqIntS.f k t127 t104).bind fun t130 => (if t130 = true then ((laws_heldIntS.f k bt121.2 1).bind fun t131 => (if t131 < 0 then (some false) else (if t131 = bt121.1 then (some true) else (some false)))) else (some false))))) else (some false))))) else (some false))))) else (some false)) = some r := H
   have A12 := Aside0.mk A120
   clear A120
   by_cases c13 : t117 = true
   ·
    subst c13
    have H1 : ((laws_markIntS.f k t107 1).bind fun bt118 => (if bt118.1 < 0 then (some false) else ((laws_eqIntS.f k t110 t104).bind fun t120 => (if t120 = true then ((laws_markIntS.f k t110 1).bind fun bt121 => ((laws_heldIntS.f k bt121.2 1).bind fun t123 => (if t123 < 0 then (some false) else (if t123 = bt121.1 then ((laws_toIntS.f k l0).bind fun t124 => ((impl_Slew.f k t124 a1 a2).bind fun t127 => ((laws_eqIntS.f k t127 t104).bind fun t130 => (if t130 = true then ((laws_heldIntS.f k bt121.2 1).bind fun t131 => (if t131 < 0 then (some false) else (if t131 = bt121.1 then (some true) else (some false)))) else (some false))))) else (some false))))) else (some false))))) = some r := by rw [if_pos rfl] at H; exact H
    clear H
    have H := H1
    clear H1
    replace H := Option.bind_eq_some_iff.mp H
    obtain ⟨⟨t118, t119⟩, A140, H⟩ := H
    replace H : (if t118 < 0 then (some false) else ((laws_eqIntS.f k t110 t104).bind fun t120 => (if t120 = true then ((laws_markIntS.f k t110 1).bind fun bt121 => ((laws_heldIntS.f k bt121.2 1).bind fun t123 => (if t123 < 0 then (some false) else (if t123 = bt121.1 then ((laws_toIntS.f k l0).bind fun t124 => ((impl_Slew.f k t124 a1 a2).bind fun t127 => ((laws_eqIntS.f k t127 t104).bind fun t130 => (if t130 = true then ((laws_heldIntS.f k bt121.2 1).bind fun t131 => (if t131 < 0 then (some false) else (if t131 = bt121.1 then (some true) else (some false)))) else (some false))))) else (some false))))) else (some false)))) = some r := H
    have A14 := Aside0.mk A140
    clear A140
    by_cases c15 : t118 < 0
    ·
     rw [if_pos c15] at H
     have c15b0 : decide (t118 < 0) = true := decide_eq_true c15
     clear c15
     exact absurd ((Option.some.inj H).trans hrt) (by simp)
    ·
     rw [if_neg c15] at H
     have c15b0 : decide (t118 < 0) = false := decide_eq_false c15
     clear c15
     replace H := Option.bind_eq_some_iff.mp H
     obtain ⟨t120, A160, H⟩ := H
     replace H : (if t120 = true then ((laws_markIntS.f k t110 1).bind fun bt121 => ((laws_heldIntS.f k bt121.2 1).bind fun t123 => (if t123 < 0 then (some false) else (if t123 = bt121.1 then ((laws_toIntS.f k l0).bind fun t124 => ((impl_Slew.f k t124 a1 a2).bind fun t127 => ((laws_eqIntS.f k t127 t104).bind fun t130 => (if t130 = true then ((laws_heldIntS.f k bt121.2 1).bind fun t131 => (if t131 < 0 then (some false) else (if t131 = bt121.1 then (some true) else (some false)))) else (some false))))) else (some false))))) else (some false)) = some r := H
     have A16 := Aside0.mk A160
     clear A160
     by_cases c17 : t120 = true
     ·
      subst c17
      have H1 : ((laws_markIntS.f k t110 1).bind fun bt121 => ((laws_heldIntS.f k bt121.2 1).bind fun t123 => (if t123 < 0 then (some false) else (if t123 = bt121.1 then ((laws_toIntS.f k l0).bind fun t124 => ((impl_Slew.f k t124 a1 a2).bind fun t127 => ((laws_eqIntS.f k t127 t104).bind fun t130 => (if t130 = true then ((laws_heldIntS.f k bt121.2 1).bind fun t131 => (if t131 < 0 then (some false) else (if t131 = bt121.1 then (some true) else (some false)))) else (some false))))) else (some false))))) = some r := by rw [if_pos rfl] at H; exact H
      clear H
      have H := H1
      clear H1
      replace H := Option.bind_eq_some_iff.mp H
      obtain ⟨⟨t121, t122⟩, A180, H⟩ := H
      replace H : ((laws_heldIntS.f k t122 1).bind fun t123 => (if t123 < 0 then (some false) else (if t123 = t121 then ((laws_toIntS.f k l0).bind fun t124 => ((impl_Slew.f k t124 a1 a2).bind fun t127 => ((laws_eqIntS.f k t127 t104).bind fun t130 => (if t130 = true then ((laws_heldIntS.f k t122 1).bind fun t131 => (if t131 < 0 then (some false) else (if t131 = t121 then (some true) else (some false)))) else (some false))))) else (some false)))) = some r := H
      have A18 := Aside0.mk A180
      clear A180
      replace H := Option.bind_eq_some_iff.mp H
      obtain ⟨t123, A190, H⟩ := H
      replace H : (if t123 < 0 then (some false) else (if t123 = t121 then ((laws_toIntS.f k l0).bind fun t124 => ((impl_Slew.f k t124 a1 a2).bind fun t127 => ((laws_eqIntS.f k t127 t104).bind fun t130 => (if t130 = true then ((laws_heldIntS.f k t122 1).bind fun t131 => (if t131 < 0 then (some false) else (if t131 = t121 then (some true) else (some false)))) else (some false))))) else (some false))) = some r := H
      have A19 := Aside0.mk A190
      clear A190
      by_cases c20 : t123 < 0
      ·
       rw [if_pos c20] at H
       have c20b0 : decide (t123 < 0) = true := decide_eq_true c20
       clear c20
       exact absurd ((Option.some.inj H).trans hrt) (by simp)
      ·
       rw [if_neg c20] at H
       have c20b0 : decide (t123 < 0) = false := decide_eq_false c20
       clear c20
       by_cases c21 : t123 = t121
       ·
        rw [if_pos c21] at H
        have c21b0 : (t123 == t121) = true := beq_iff_eq.mpr c21
        have c21b1 : (t123 != t121) = false := bne_eq_false_iff_eq.mpr c21
        clear c21
        replace H := Option.bind_eq_some_iff.mp H
        obtain ⟨t124, A220, H⟩ := H
        replace H : ((impl_Slew.f k t124 a1 a2).bind fun t127 => ((laws_eqIntS.f k t127 t104).bind fun t130 => (if t130 = true then ((laws_heldIntS.f k t122 1).bind fun t131 => (if t131 < 0 then (some false) else (if t131 = t121 then (some true) else (some false)))) else (some false)))) = some r := H
        have A22 := Aside0.mk A220
        clear A220
        replace H := Option.bind_eq_some_iff.mp H
        obtain ⟨t127, A230, H⟩ := H
        replace H : ((laws_eqIntS.f k t127 t104).bind fun t130 => (if t130 = true then ((laws_heldIntS.f k t122 1).bind fun t131 => (if t131 < 0 then (some false) else (if t131 = t121 then (some true) else (some false)))) else (some false))) = some r := H
        have A23 := Aside0.mk A230
        clear A230
        replace H := Option.bind_eq_some_iff.mp H
        obtain ⟨t130, A240, H⟩ := H
        replace H : (if t130 = true then ((laws_heldIntS.f k t122 1).bind fun t131 => (if t131 < 0 then (some false) else (if t131 = t121 then (some true) else (some false)))) else (some false)) = some r := H
        have A24 := Aside0.mk A240
        clear A240
        by_cases c25 : t130 = true
        ·
         subst c25
         have H1 : ((laws_heldIntS.f k t122 1).bind fun t131 => (if t131 < 0 then (some false) else (if t131 = t121 then (some true) else (some false)))) = some r := by rw [if_pos rfl] at H; exact H
         clear H
         have H := H1
         clear H1
         replace H := Option.bind_eq_some_iff.mp H
         obtain ⟨t131, A260, H⟩ := H
         replace H : (if t131 < 0 then (some false) else (if t131 = t121 then (some true) else (some false))) = some r := H
         have A26 := Aside0.mk A260
         clear A260
         by_cases c27 : t131 < 0
         ·
          rw [if_pos c27] at H
          have c27b0 : decide (t131 < 0) = true := decide_eq_true c27
          clear c27
          exact absurd ((Option.some.inj H).trans hrt) (by simp)
         ·
          rw [if_neg c27] at H
          have c27b0 : decide (t131 < 0) = false := decide_eq_false c27
          clear c27
          by_cases c28 : t131 = t121
          ·
           rw [if_pos c28] at H
           have c28b0 : (t131 == t121) = true := beq_iff_eq.mpr c28
           have c28b1 : (t131 != t121) = false := bne_eq_false_iff_eq.mpr c28
           clear c28
           obtain rfl := Option.some.inj H
           go_enter Try.func9, Try.ntmps9
           go_wp2_with (first | ((with_reducible refine gate_callee (f := 16) rfl ?_); refine goesL_ (some 18) rfl rfl Try.func16 (by kernel_rfl) rfl #[.slice A0 l0.length c0] rfl (by (try simp only [List.map_toArray, List.map_cons, List.map_nil]); first | done | rfl | (simp only [List.length_drop, List.length_take]; rfl)) ?_; (with_reducible refine (laws_toIntS.calls k _ _ l0 t101 _ ?side1 ?side2 A5.out).mono ?_); (case side1 => repeat (first | exact HR0.out | (with_reducible refine Kd.C_alloc ?_ _) | (with_reducible refine Kd.C_drewN ?_ _) | (with_reducible refine Kd.C_drew ?_))); (case side2 => exact HC0.out); rintro e w29 ⟨v102, rfl, ho0, hb⟩; refine ⟨_, rfl, ?_⟩; have n0_ := Aside0.mk (Kd.R_lower ho0 (below_size (by repeat (first | (with_reducible first | exact HB.out | apply below_alloc | apply pw_below_drewN | apply below_drew1) | exact HB.out)))); have n1_ := Aside0.mk (below_step (by repeat (first | (with_reducible first | exact HB.out | apply below_alloc | apply pw_below_drewN | apply below_drew1) | exact HB.out)) hb); clear HB; have HO103 := n0_; have HB := n1_; clear n0_ n1_; (try clear hb); (try clear hb2); (try clear hk); (try clear hi); (try clear ho0); obtain ⟨Ao30, co30, eo30⟩ := Kd.R_slice HO103.out; subst eo30) | ((with_reducible refine gate_callee (f := 35) rfl ?_); refine goesL_ (some 21) rfl rfl Try.func35 (by kernel_rfl) rfl #[.slice Ao30 t101.length co30, .int .i64 a1, .int .i64 a2] rfl (by (try simp only [List.map_toArray, List.map_cons, List.map_nil]); first | done | rfl | (simp only [List.length_drop, List.length_take]; rfl)) ?_; (with_reducible refine (spec_Slew.calls k _ _ t101 a1 a2 t104 _ ?side1 ?side2 A6.out).mono ?_); (case side1 => repeat (first | exact (Kd.R_reads' HO103.out).2.2 | (with_reducible refine Kd.C_alloc ?_ _) | (with_reducible refine Kd.C_drewN ?_ _) | (with_reducible refine Kd.C_drew ?_))); (case side2 => exact (Kd.R_reads' HO103.out).2.1); rintro e w31 ⟨v105, rfl, ho0, hb⟩; refine ⟨_, rfl, ?_⟩; have n0_ := Aside0.mk (Kd.R_elder' (by (with_reducible repeat (first | apply Kd.R_alloc | apply Kd.R_drewN | apply Kd.R_drew)); exact HO103.out) (Kd.R_base ho0) hb); have n1_ := Aside0.mk (Kd.R_lower (Kd.R_new' ho0 (Kd.R_lt (by (with_reducible repeat (first | apply Kd.R_alloc | apply Kd.R_drewN | apply Kd.R_drew)); exact HO103.out))) (below_size (by repeat (first | (with_reducible first | exact HB.out | apply below_alloc | apply pw_below_drewN | apply below_drew1) | exact HB.out)))); have n2_ := Aside0.mk (below_step (by repeat (first | (with_reducible first | exact HB.out | apply below_alloc | apply pw_below_drewN | apply below_drew1) | exact HB.out)) hb); clear HO103; clear HB; have HO103 := n0_; have HO106 := n1_; have HB := n2_; clear n0_ n1_ n2_; (try clear hb); (try clear hb2); (try clear hk); (try clear hi); (try clear ho0)) | ((with_reducible refine gate_callee (f := 16) rfl ?_); refine goesL_ (some 23) rfl rfl Try.func16 (by kernel_rfl) rfl #[.slice A0 l0.length c0] rfl (by (try simp only [List.map_toArray, List.map_cons, List.map_nil]); first | done | rfl | (simp only [List.length_drop, List.length_take]; rfl)) ?_; (with_reducible refine (laws_toIntS.calls k _ _ l0 t107 _ ?side1 ?side2 A7.out).mono ?_); (case side1 => repeat (first | exact (Kd.C_below HR0.out HB.out) | (with_reducible refine Kd.C_alloc ?_ _) | (with_reducible refine Kd.C_drewN ?_ _) | (with_reducible refine Kd.C_drew ?_))); (case side2 => exact HC0.out); rintro e w32 ⟨v108, rfl, ho0, hb⟩; refine ⟨_, rfl, ?_⟩; have n0_ := Aside0.mk (Kd.R_elder' (by (with_reducible repeat (first | apply Kd.R_alloc | apply Kd.R_drewN | apply Kd.R_drew)); exact HO103.out) (Kd.R_base ho0) hb); have n1_ := Aside0.mk (Kd.R_elder' (by (with_reducible repeat (first | apply Kd.R_alloc | apply Kd.R_drewN | apply Kd.R_drew)); exact HO106.out) (Kd.R_base ho0) hb); have n2_ := Aside0.mk (Kd.R_lower (Kd.R_new' (Kd.R_new' ho0 (Kd.R_lt (by (with_reducible repeat (first | apply Kd.R_alloc | apply Kd.R_drewN | apply Kd.R_drew)); exact HO103.out))) (Kd.R_lt (by (with_reducible repeat (first | apply Kd.R_alloc | apply Kd.R_drewN | apply Kd.R_drew)); exact HO106.out))) (below_size (by repeat (first | (with_reducible first | exact HB.out | apply below_alloc | apply pw_below_drewN | apply below_drew1) | exact HB.out)))); have n3_ := Aside0.mk (below_step (by repeat (first | (with_reducible first | exact HB.out | apply below_alloc | apply pw_below_drewN | apply below_drew1) | exact HB.out)) hb); clear HO103; clear HO106; clear HB; have HO103 := n0_; have HO106 := n1_; have HO109 := n2_; have HB := n3_; clear n0_ n1_ n2_ n3_; (try clear hb); (try clear hb2); (try clear hk); (try clear hi); (try clear ho0); obtain ⟨Ao33, co33, eo33⟩ := Kd.R_slice HO109.out; subst eo33) | ((with_reducible refine gate_callee (f := 36) rfl ?_); refine goesL_ (some 27) rfl rfl Try.func36 (by kernel_rfl) rfl #[.slice Ao33 t107.length co33, .int .i64 a1, .int .i64 a2] rfl (by (try simp only [List.map_toArray, List.map_cons, List.map_nil]); first | done | rfl | (simp only [List.length_drop, List.length_take]; rfl)) ?_; (with_reducible refine (impl_Slew.calls k _ _ t107 a1 a2 t110 _ ?side1 ?side2 A8.out).mono ?_); (case side1 => repeat (first | exact (Kd.R_reads' HO109.out).2.2 | (with_reducible refine Kd.C_alloc ?_ _) | (with_reducible refine Kd.C_drewN ?_ _) | (with_reducible refine Kd.C_drew ?_))); (case side2 => exact (Kd.R_reads' HO109.out).2.1); rintro e w34 ⟨v111, rfl, ho0, hb⟩; refine ⟨_, rfl, ?_⟩; have n0_ := Aside0.mk (Kd.R_elder' (by (with_reducible repeat (first | apply Kd.R_alloc | apply Kd.R_drewN | apply Kd.R_drew)); exact HO103.out) (Kd.R_base ho0) hb); have n1_ := Aside0.mk (Kd.R_elder' (by (with_reducible repeat (first | apply Kd.R_alloc | apply Kd.R_drewN | apply Kd.R_drew)); exact HO106.out) (Kd.R_base ho0) hb); have n2_ := Aside0.mk (Kd.R_elder' (by (with_reducible repeat (first | apply Kd.R_alloc | apply Kd.R_drewN | apply Kd.R_drew)); exact HO109.out) (Kd.R_base ho0) hb); have n3_ := Aside0.mk (Kd.R_lower (Kd.R_new' (Kd.R_new' (Kd.R_new' ho0 (Kd.R_lt (by (with_reducible repeat (first | apply Kd.R_alloc | apply Kd.R_drewN | apply Kd.R_drew)); exact HO103.out))) (Kd.R_lt (by (with_reducible repeat (first | apply Kd.R_alloc | apply Kd.R_drewN | apply Kd.R_drew)); exact HO106.out))) (Kd.R_lt (by (with_reducible repeat (first | apply Kd.R_alloc | apply Kd.R_drewN | apply Kd.R_drew)); exact HO109.out))) (below_size (by repeat (first | (with_reducible first | exact HB.out | apply below_alloc | apply pw_below_drewN | apply below_drew1) | exact HB.out)))); have n4_ := Aside0.mk (below_step (by repeat (first | (with_reducible first | exact HB.out | apply below_alloc | apply pw_below_drewN | apply below_drew1) | exact HB.out)) hb); clear HO103; clear HO106; clear HO109; clear HB; have HO103 := n0_; have HO106 := n1_; have HO109 := n2_; have HO112 := n3_; have HB := n4_; clear n0_ n1_ n2_ n3_ n4_; (try clear hb); (try clear hb2); (try clear hk); (try clear hi); (try clear ho0); obtain ⟨Ao35, co35, eo35⟩ := Kd.R_slice HO112.out; subst eo35; obtain ⟨Ao36, co36, eo36⟩ := Kd.R_slice HO106.out; subst eo36) | ((with_reducible refine gate_callee (f := 18) rfl ?_); refine goesL_ (some 30) rfl rfl Try.func18 (by kernel_rfl) rfl #[.slice Ao35 t110.length co35, .slice Ao36 t104.length co36] rfl (by (try simp only [List.map_toArray, List.map_cons, List.map_nil]); first | done | rfl | (simp only [List.length_drop, List.length_take]; rfl)) ?_; (with_reducible refine (laws_eqIntS.calls k _ _ t110 _ _ t104 true _ ?side1 ?side2 ?side3 ?side4 A9.out).mono ?_); (case side1 => repeat (first | exact (Kd.R_reads' HO112.out).2.2 | (with_reducible refine Kd.C_alloc ?_ _) | (with_reducible refine Kd.C_drewN ?_ _) | (with_reducible refine Kd.C_drew ?_))); (case side2 => exact (Kd.R_reads' HO112.out).2.1); (case side3 => repeat (first | exact (Kd.R_reads' HO106.out).2.2 | (with_reducible refine Kd.C_alloc ?_ _) | (with_reducible refine Kd.C_drewN ?_ _) | (with_reducible refine Kd.C_drew ?_))); (case side4 => exact (Kd.R_reads' HO106.out).2.1); rintro e w' ⟨rfl, ⟨nd, rfl⟩⟩; refine ⟨_, rfl, ?_⟩) | ((with_reducible refine gate_callee (f := 16) rfl ?_); refine goesL_ (some 34) rfl rfl Try.func16 (by kernel_rfl) rfl #[.slice A0 l0.length c0] rfl (by (try simp only [List.map_toArray, List.map_cons, List.map_nil]); first | done | rfl | (simp only [List.length_drop, List.length_take]; rfl)) ?_; (with_reducible refine (laws_toIntS.calls k _ _ l0 t114 _ ?side1 ?side2 A11.out).mono ?_); (case side1 => repeat (first | exact (Kd.C_below HR0.out (by repeat (first | (with_reducible first | exact HB.out | apply below_alloc | apply pw_below_drewN | apply below_drew1) | exact HB.out))) | (with_reducible refine Kd.C_alloc ?_ _) | (with_reducible refine Kd.C_drewN ?_ _) | (with_reducible refine Kd.C_drew ?_))); (case side2 => exact HC0.out); rintro e w37 ⟨v115, rfl, ho0, hb⟩; refine ⟨_, rfl, ?_⟩; have n0_ := Aside0.mk (Kd.R_elder' (by (with_reducible repeat (first | apply Kd.R_alloc | apply Kd.R_drewN | apply Kd.R_drew)); exact HO103.out) (Kd.R_base ho0) hb); have n1_ := Aside0.mk (Kd.R_elder' (by (with_reducible repeat (first | apply Kd.R_alloc | apply Kd.R_drewN | apply Kd.R_drew)); exact HO106.out) (Kd.R_base ho0) hb); have n2_ := Aside0.mk (Kd.R_elder' (by (with_reducible repeat (first | apply Kd.R_alloc | apply Kd.R_drewN | apply Kd.R_drew)); exact HO109.out) (Kd.R_base ho0) hb); have n3_ := Aside0.mk (Kd.R_elder' (by (with_reducible repeat (first | apply Kd.R_alloc | apply Kd.R_drewN | apply Kd.R_drew)); exact HO112.out) (Kd.R_base ho0) hb); have n4_ := Aside0.mk (Kd.R_lower (Kd.R_new' (Kd.R_new' (Kd.R_new' (Kd.R_new' ho0 (Kd.R_lt (by (with_reducible repeat (first | apply Kd.R_alloc | apply Kd.R_drewN | apply Kd.R_drew)); exact HO103.out))) (Kd.R_lt (by (with_reducible repeat (first | apply Kd.R_alloc | apply Kd.R_drewN | apply Kd.R_drew)); exact HO106.out))) (Kd.R_lt (by (with_reducible repeat (first | apply Kd.R_alloc | apply Kd.R_drewN | apply Kd.R_drew)); exact HO109.out))) (Kd.R_lt (by (with_reducible repeat (first | apply Kd.R_alloc | apply Kd.R_drewN | apply Kd.R_drew)); exact HO112.out))) (below_size (by repeat (first | (with_reducible first | exact HB.out | apply below_alloc | apply pw_below_drewN | apply below_drew1) | exact HB.out)))); have n5_ := Aside0.mk (below_step (by repeat (first | (with_reducible first | exact HB.out | apply below_alloc | apply pw_below_drewN | apply below_drew1) | exact HB.out)) hb); clear HO103; clear HO106; clear HO109; clear HO112; clear HB; have HO103 := n0_; have HO106 := n1_; have HO109 := n2_; have HO112 := n3_; have HO116 := n4_; have HB := n5_; clear n0_ n1_ n2_ n3_ n4_ n5_; (try clear hb); (try clear hb2); (try clear hk); (try clear hi); (try clear ho0); obtain ⟨Ao38, co38, eo38⟩ := Kd.R_slice HO116.out; subst eo38) | ((with_reducible refine gate_callee (f := 18) rfl ?_); refine goesL_ (some 35) rfl rfl Try.func18 (by kernel_rfl) rfl #[.slice Ao33 t107.length co33, .slice Ao38 t114.length co38] rfl (by (try simp only [List.map_toArray, List.map_cons, List.map_nil]); first | done | rfl | (simp only [List.length_drop, List.length_take]; rfl)) ?_; (with_reducible refine (laws_eqIntS.calls k _ _ t107 _ _ t114 true _ ?side1 ?side2 ?side3 ?side4 A12.out).mono ?_); (case side1 => repeat (first | exact (Kd.R_reads' HO109.out).2.2 | (with_reducible refine Kd.C_alloc ?_ _) | (with_reducible refine Kd.C_drewN ?_ _) | (with_reducible refine Kd.C_drew ?_))); (case side2 => exact (Kd.R_reads' HO109.out).2.1); (case side3 => repeat (first | exact (Kd.R_reads' HO116.out).2.2 | (with_reducible refine Kd.C_alloc ?_ _) | (with_reducible refine Kd.C_drewN ?_ _) | (with_reducible refine Kd.C_drew ?_))); (case side4 => exact (Kd.R_reads' HO116.out).2.1); rintro e w' ⟨rfl, ⟨nd, rfl⟩⟩; refine ⟨_, rfl, ?_⟩) | ((with_reducible refine gate_callee (f := 37) rfl ?_); refine goesL_ (some 39) rfl rfl Try.func37 (by kernel_rfl) rfl #[.slice Ao33 t107.length co33, .int .i64 1] rfl (by (try simp only [List.map_toArray, List.map_cons, List.map_nil]); first | done | rfl | (simp only [List.length_drop, List.length_take]; rfl)) ?_; (with_reducible refine (laws_markIntS.calls k (fun k_ => some k_ = (.slice Ao33 t107.length co33 : Value).ownBlock) (.slice Ao33 t107.length co33) t107 1 t118 t119 w _ ?side1 ?side2 A14.out).mono ?_); (case side1 => repeat (first | (with_reducible first | exact HB.out | apply below_alloc | apply pw_below_drewN | apply below_drew1) | exact HB.out)); (case side2 => exact Kd.R_tight rfl HO109.out); rintro e w39 ⟨rfl, hy0, hb, hkp⟩; refine ⟨_, rfl, ?_⟩; have n0_ := Aside0.mk (Kd.R_mono (ok' := fun k_ => some k_ ≠ (.slice Ao36 t104.length co36 : Value).ownBlock ∧ some k_ ≠ (.slice Ao33 t107.length co33 : Value).ownBlock ∧ some k_ ≠ (.slice Ao35 t110.length co35 : Value).ownBlock ∧ some k_ ≠ (.slice Ao38 t114.length co38 : Value).ownBlock) (Kd.R_keptB (HO103.out) hkp (fun k_ hk_ hs_ => (hk_.1.1.2) hs_)) (fun k_ hk_ => ⟨hk_.1.1.1.1.2, hk_.1.1.1.2, hk_.1.1.2, hk_.1.2⟩)); have n1_ := Aside0.mk (Kd.R_mono (ok' := fun k_ => some k_ ≠ (.slice Ao30 t101.length co30 : Value).ownBlock ∧ some k_ ≠ (.slice Ao33 t107.length co33 : Value).ownBlock ∧ some k_ ≠ (.slice Ao35 t110.length co35 : Value).ownBlock ∧ some k_ ≠ (.slice Ao38 t114.length co38 : Value).ownBlock) (Kd.R_keptB (HO106.out) hkp (fun k_ hk_ hs_ => (hk_.1.1.2) hs_)) (fun k_ hk_ => ⟨hk_.1.1.1.1.2, hk_.1.1.1.2, hk_.1.1.2, hk_.1.2⟩)); have n2_ := Aside0.mk (Kd.R_reok rfl hy0 (fun k_ e_ => HO109.out.1 k_ e_)); have n3_ := Aside0.mk (Kd.R_mono (ok' := fun k_ => some k_ ≠ (.slice Ao30 t101.length co30 : Value).ownBlock ∧ some k_ ≠ (.slice Ao36 t104.length co36 : Value).ownBlock ∧ some k_ ≠ (.slice Ao33 t107.length co33 : Value).ownBlock ∧ some k_ ≠ (.slice Ao38 t114.length co38 : Value).ownBlock) (Kd.R_keptB (HO112.out) hkp (fun k_ hk_ hs_ => (hk_.1.2) hs_)) (fun k_ hk_ => ⟨hk_.1.1.1.1.2, hk_.1.1.1.2, hk_.1.1.2, hk_.1.2⟩)); have n4_ := Aside0.mk (Kd.R_mono (ok' := fun k_ => some k_ ≠ (.slice Ao30 t101.length co30 : Value).ownBlock ∧ some k_ ≠ (.slice Ao36 t104.length co36 : Value).ownBlock ∧ some k_ ≠ (.slice Ao33 t107.length co33 : Value).ownBlock ∧ some k_ ≠ (.slice Ao35 t110.length co35 : Value).ownBlock) (Kd.R_keptB (HO116.out) hkp (fun k_ hk_ hs_ => (hk_.1.2) hs_)) (fun k_ hk_ => ⟨hk_.1.1.1.1.2, hk_.1.1.1.2, hk_.1.1.2, hk_.1.2⟩)); have n5_ := Aside0.mk (hb); clear HO103; clear HO106; clear HO109; clear HO112; clear HO116; clear HB; have HO103 := n0_; have HO106 := n1_; have HO109 := n2_; have HO112 := n3_; have HO116 := n4_; have HB := n5_; clear n0_ n1_ n2_ n3_ n4_ n5_; (try clear hb); (try clear hkp); (try clear hy0)) | (go_at_call 18; (with_reducible refine (laws_eqIntS.calls k _ _ t110 _ _ t104 true _ ?side1 ?side2 ?side3 ?side4 A16.out).mono ?_); (case side1 => repeat (first | exact (Kd.R_reads' HO112.out).2.2 | (with_reducible refine Kd.C_alloc ?_ _) | (with_reducible refine Kd.C_drewN ?_ _) | (with_reducible refine Kd.C_drew ?_))); (case side2 => exact (Kd.R_reads' HO112.out).2.1); (case side3 => repeat (first | exact (Kd.R_reads' HO106.out).2.2 | (with_reducible refine Kd.C_alloc ?_ _) | (with_reducible refine Kd.C_drewN ?_ _) | (with_reducible refine Kd.C_drew ?_))); (case side4 => exact (Kd.R_reads' HO106.out).2.1); rintro e w' ⟨rfl, ⟨nd, rfl⟩⟩) | ((with_reducible refine gate_callee (f := 37) rfl ?_); refine goesL_ (some 50) rfl rfl Try.func37 (by kernel_rfl) rfl #[.slice Ao35 t110.length co35, .int .i64 1] rfl (by (try simp only [List.map_toArray, List.map_cons, List.map_nil]); first | done | rfl | (simp only [List.length_drop, List.length_take]; rfl)) ?_; (with_reducible refine (laws_markIntS.calls k (fun k_ => some k_ = (.slice Ao35 t110.length co35 : Value).ownBlock) (.slice Ao35 t110.length co35) t110 1 t121 t122 w _ ?side1 ?side2 A18.out).mono ?_); (case side1 => repeat (first | (with_reducible first | exact HB.out | apply below_alloc | apply pw_below_drewN | apply below_drew1) | exact HB.out)); (case side2 => exact Kd.R_tight rfl HO112.out); rintro e w40 ⟨rfl, hy0, hb, hkp⟩; refine ⟨_, rfl, ?_⟩; have n0_ := Aside0.mk (Kd.R_mono (ok' := fun k_ => some k_ ≠ (.slice Ao36 t104.length co36 : Value).ownBlock ∧ some k_ ≠ (.slice Ao33 t107.length co33 : Value).ownBlock ∧ some k_ ≠ (.slice Ao35 t110.length co35 : Value).ownBlock ∧ some k_ ≠ (.slice Ao38 t114.length co38 : Value).ownBlock) (Kd.R_keptB (HO103.out) hkp (fun k_ hk_ hs_ => (hk_.2.2.1) hs_)) (fun k_ hk_ => ⟨hk_.1.1, hk_.1.2.1, hk_.1.2.2.1, hk_.1.2.2.2⟩)); have n1_ := Aside0.mk (Kd.R_mono (ok' := fun k_ => some k_ ≠ (.slice Ao30 t101.length co30 : Value).ownBlock ∧ some k_ ≠ (.slice Ao33 t107.length co33 : Value).ownBlock ∧ some k_ ≠ (.slice Ao35 t110.length co35 : Value).ownBlock ∧ some k_ ≠ (.slice Ao38 t114.length co38 : Value).ownBlock) (Kd.R_keptB (HO106.out) hkp (fun k_ hk_ hs_ => (hk_.2.2.1) hs_)) (fun k_ hk_ => ⟨hk_.1.1, hk_.1.2.1, hk_.1.2.2.1, hk_.1.2.2.2⟩)); have n2_ := Aside0.mk (Kd.R_mono (ok' := fun k_ => some k_ ≠ (.slice Ao30 t101.length co30 : Value).ownBlock ∧ some k_ ≠ (.slice Ao36 t104.length co36 : Value).ownBlock ∧ some k_ ≠ (.slice Ao35 t110.length co35 : Value).ownBlock ∧ some k_ ≠ (.slice Ao38 t114.length co38 : Value).ownBlock) (Kd.R_keptB (HO109.out) hkp (fun k_ hk_ hs_ => (hk_.1.2) hs_)) (fun k_ hk_ => ⟨hk_.1.1.1.1.2, hk_.1.1.1.2, hk_.1.1.2, hk_.1.2⟩)); have n3_ := Aside0.mk (Kd.R_reok rfl hy0 (fun k_ e_ => HO112.out.1 k_ e_)); have n4_ := Aside0.mk (Kd.R_mono (ok' := fun k_ => some k_ ≠ (.slice Ao30 t101.length co30 : Value).ownBlock ∧ some k_ ≠ (.slice Ao36 t104.length co36 : Value).ownBlock ∧ some k_ ≠ (.slice Ao33 t107.length co33 : Value).ownBlock ∧ some k_ ≠ (.slice Ao35 t110.length co35 : Value).ownBlock) (Kd.R_keptB (HO116.out) hkp (fun k_ hk_ hs_ => (hk_.2.2.2) hs_)) (fun k_ hk_ => ⟨hk_.1.1, hk_.1.2.1, hk_.1.2.2.1, hk_.1.2.2.2⟩)); have n5_ := Aside0.mk (hb); clear HO103; clear HO106; clear HO109; clear HO112; clear HO116; clear HB; have HO103 := n0_; have HO106 := n1_; have HO109 := n2_; have HO112 := n3_; have HO116 := n4_; have HB := n5_; clear n0_ n1_ n2_ n3_ n4_ n5_; (try clear hb); (try clear hkp); (try clear hy0)) | ((with_reducible refine gate_callee (f := 38) rfl ?_); refine goesL_ (some 53) rfl rfl Try.func38 (by kernel_rfl) rfl #[.slice Ao35 t122.length co35, .int .i64 1] rfl (by (try simp only [List.map_toArray, List.map_cons, List.map_nil]); first | done | (rw [show t122.length = t110.length from (Kd.R_reads' HO112.out).1.symm] <;> rfl) | rfl | (simp only [List.length_drop, List.length_take]; rfl)) ?_; (with_reducible refine (laws_heldIntS.calls k _ _ t122 1 t123 _ ?side1 ?side2 A19.out).mono ?_); (case side1 => repeat (first | exact (Kd.R_reads' HO112.out).2.2 | (with_reducible refine Kd.C_alloc ?_ _) | (with_reducible refine Kd.C_drewN ?_ _) | (with_reducible refine Kd.C_drew ?_))); (case side2 => rw [show t122.length = t110.length from (Kd.R_reads' HO112.out).1.symm]; exact (Kd.R_reads' HO112.out).2.1); rintro e w' ⟨rfl, ⟨nd, rfl⟩⟩; refine ⟨_, rfl, ?_⟩) | ((with_reducible refine gate_callee (f := 16) rfl ?_); refine goesL_ (some 60) rfl rfl Try.func16 (by kernel_rfl) rfl #[.slice A0 l0.length c0] rfl (by (try simp only [List.map_toArray, List.map_cons, List.map_nil]); first | done | rfl | (simp only [List.length_drop, List.length_take]; rfl)) ?_; (with_reducible refine (laws_toIntS.calls k _ _ l0 t124 _ ?side1 ?side2 A22.out).mono ?_); (case side1 => repeat (first | exact (Kd.C_below HR0.out (by repeat (first | (with_reducible first | exact HB.out | apply below_alloc | apply pw_below_drewN | apply below_drew1) | exact HB.out))) | (with_reducible refine Kd.C_alloc ?_ _) | (with_reducible refine Kd.C_drewN ?_ _) | (with_reducible refine Kd.C_drew ?_))); (case side2 => exact HC0.out); rintro e w41 ⟨v125, rfl, ho0, hb⟩; refine ⟨_, rfl, ?_⟩; have n0_ := Aside0.mk (Kd.R_elder' (by (with_reducible repeat (first | apply Kd.R_alloc | apply Kd.R_drewN | apply Kd.R_drew)); exact HO103.out) (Kd.R_base ho0) hb); have n1_ := Aside0.mk (Kd.R_elder' (by (with_reducible repeat (first | apply Kd.R_alloc | apply Kd.R_drewN | apply Kd.R_drew)); exact HO106.out) (Kd.R_base ho0) hb); have n2_ := Aside0.mk (Kd.R_elder' (by (with_reducible repeat (first | apply Kd.R_alloc | apply Kd.R_drewN | apply Kd.R_drew)); exact HO109.out) (Kd.R_base ho0) hb); have n3_ := Aside0.mk (Kd.R_elder' (by (with_reducible repeat (first | apply Kd.R_alloc | apply Kd.R_drewN | apply Kd.R_drew)); exact HO112.out) (Kd.R_base ho0) hb); have n4_ := Aside0.mk (Kd.R_elder' (by (with_reducible repeat (first | apply Kd.R_alloc | apply Kd.R_drewN | apply Kd.R_drew)); exact HO116.out) (Kd.R_base ho0) hb); have n5_ := Aside0.mk (Kd.R_lower (Kd.R_new' (Kd.R_new' (Kd.R_new' (Kd.R_new' (Kd.R_new' ho0 (Kd.R_lt (by (with_reducible repeat (first | apply Kd.R_alloc | apply Kd.R_drewN | apply Kd.R_drew)); exact HO103.out))) (Kd.R_lt (by (with_reducible repeat (first | apply Kd.R_alloc | apply Kd.R_drewN | apply Kd.R_drew)); exact HO106.out))) (Kd.R_lt (by (with_reducible repeat (first | apply Kd.R_alloc | apply Kd.R_drewN | apply Kd.R_drew)); exact HO109.out))) (Kd.R_lt (by (with_reducible repeat (first | apply Kd.R_alloc | apply Kd.R_drewN | apply Kd.R_drew)); exact HO112.out))) (Kd.R_lt (by (with_reducible repeat (first | apply Kd.R_alloc | apply Kd.R_drewN | apply Kd.R_drew)); exact HO116.out))) (below_size (by repeat (first | (with_reducible first | exact HB.out | apply below_alloc | apply pw_below_drewN | apply below_drew1) | exact HB.out)))); have n6_ := Aside0.mk (below_step (by repeat (first | (with_reducible first | exact HB.out | apply below_alloc | apply pw_below_drewN | apply below_drew1) | exact HB.out)) hb); clear HO103; clear HO106; clear HO109; clear HO112; clear HO116; clear HB; have HO103 := n0_; have HO106 := n1_; have HO109 := n2_; have HO112 := n3_; have HO116 := n4_; have HO126 := n5_; have HB := n6_; clear n0_ n1_ n2_ n3_ n4_ n5_ n6_; (try clear hb); (try clear hb2); (try clear hk); (try clear hi); (try clear ho0); obtain ⟨Ao42, co42, eo42⟩ := Kd.R_slice HO126.out; subst eo42) | ((with_reducible refine gate_callee (f := 36) rfl ?_); refine goesL_ (some 63) rfl rfl Try.func36 (by kernel_rfl) rfl #[.slice Ao42 t124.length co42, .int .i64 a1, .int .i64 a2] rfl (by (try simp only [List.map_toArray, List.map_cons, List.map_nil]); first | done | rfl | (simp only [List.length_drop, List.length_take]; rfl)) ?_; (with_reducible refine (impl_Slew.calls k _ _ t124 a1 a2 t127 _ ?side1 ?side2 A23.out).mono ?_); (case side1 => repeat (first | exact (Kd.R_reads' HO126.out).2.2 | (with_reducible refine Kd.C_alloc ?_ _) | (with_reducible refine Kd.C_drewN ?_ _) | (with_reducible refine Kd.C_drew ?_))); (case side2 => exact (Kd.R_reads' HO126.out).2.1); rintro e w43 ⟨v128, rfl, ho0, hb⟩; refine ⟨_, rfl, ?_⟩; have n0_ := Aside0.mk (Kd.R_elder' (by (with_reducible repeat (first | apply Kd.R_alloc | apply Kd.R_drewN | apply Kd.R_drew)); exact HO103.out) (Kd.R_base ho0) hb); have n1_ := Aside0.mk (Kd.R_elder' (by (with_reducible repeat (first | apply Kd.R_alloc | apply Kd.R_drewN | apply Kd.R_drew)); exact HO106.out) (Kd.R_base ho0) hb); have n2_ := Aside0.mk (Kd.R_elder' (by (with_reducible repeat (first | apply Kd.R_alloc | apply Kd.R_drewN | apply Kd.R_drew)); exact HO109.out) (Kd.R_base ho0) hb); have n3_ := Aside0.mk (Kd.R_elder' (by (with_reducible repeat (first | apply Kd.R_alloc | apply Kd.R_drewN | apply Kd.R_drew)); exact HO112.out) (Kd.R_base ho0) hb); have n4_ := Aside0.mk (Kd.R_elder' (by (with_reducible repeat (first | apply Kd.R_alloc | apply Kd.R_drewN | apply Kd.R_drew)); exact HO116.out) (Kd.R_base ho0) hb); have n5_ := Aside0.mk (Kd.R_elder' (by (with_reducible repeat (first | apply Kd.R_alloc | apply Kd.R_drewN | apply Kd.R_drew)); exact HO126.out) (Kd.R_base ho0) hb); have n6_ := Aside0.mk (Kd.R_lower (Kd.R_new' (Kd.R_new' (Kd.R_new' (Kd.R_new' (Kd.R_new' (Kd.R_new' ho0 (Kd.R_lt (by (with_reducible repeat (first | apply Kd.R_alloc | apply Kd.R_drewN | apply Kd.R_drew)); exact HO103.out))) (Kd.R_lt (by (with_reducible repeat (first | apply Kd.R_alloc | apply Kd.R_drewN | apply Kd.R_drew)); exact HO106.out))) (Kd.R_lt (by (with_reducible repeat (first | apply Kd.R_alloc | apply Kd.R_drewN | apply Kd.R_drew)); exact HO109.out))) (Kd.R_lt (by (with_reducible repeat (first | apply Kd.R_alloc | apply Kd.R_drewN | apply Kd.R_drew)); exact HO112.out))) (Kd.R_lt (by (with_reducible repeat (first | apply Kd.R_alloc | apply Kd.R_drewN | apply Kd.R_drew)); exact HO116.out))) (Kd.R_lt (by (with_reducible repeat (first | apply Kd.R_alloc | apply Kd.R_drewN | apply Kd.R_drew)); exact HO126.out))) (below_size (by repeat (first | (with_reducible first | exact HB.out | apply below_alloc | apply pw_below_drewN | apply below_drew1) | exact HB.out)))); have n7_ := Aside0.mk (below_step (by repeat (first | (with_reducible first | exact HB.out | apply below_alloc | apply pw_below_drewN | apply below_drew1) | exact HB.out)) hb); clear HO103; clear HO106; clear HO109; clear HO112; clear HO116; clear HO126; clear HB; have HO103 := n0_; have HO106 := n1_; have HO109 := n2_; have HO112 := n3_; have HO116 := n4_; have HO126 := n5_; have HO129 := n6_; have HB := n7_; clear n0_ n1_ n2_ n3_ n4_ n5_ n6_ n7_; (try clear hb); (try clear hb2); (try clear hk); (try clear hi); (try clear ho0); obtain ⟨Ao44, co44, eo44⟩ := Kd.R_slice HO129.out; subst eo44) | ((with_reducible refine gate_callee (f := 18) rfl ?_); refine goesL_ (some 66) rfl rfl Try.func18 (by kernel_rfl) rfl #[.slice Ao44 t127.length co44, .slice Ao36 t104.length co36] rfl (by (try simp only [List.map_toArray, List.map_cons, List.map_nil]); first | done | rfl | (simp only [List.length_drop, List.length_take]; rfl)) ?_; (with_reducible refine (laws_eqIntS.calls k _ _ t127 _ _ t104 true _ ?side1 ?side2 ?side3 ?side4 A24.out).mono ?_); (case side1 => repeat (first | exact (Kd.R_reads' HO129.out).2.2 | (with_reducible refine Kd.C_alloc ?_ _) | (with_reducible refine Kd.C_drewN ?_ _) | (with_reducible refine Kd.C_drew ?_))); (case side2 => exact (Kd.R_reads' HO129.out).2.1); (case side3 => repeat (first | exact (Kd.R_reads' HO106.out).2.2 | (with_reducible refine Kd.C_alloc ?_ _) | (with_reducible refine Kd.C_drewN ?_ _) | (with_reducible refine Kd.C_drew ?_))); (case side4 => exact (Kd.R_reads' HO106.out).2.1); rintro e w' ⟨rfl, ⟨nd, rfl⟩⟩; refine ⟨_, rfl, ?_⟩) | ((with_reducible refine gate_callee (f := 38) rfl ?_); refine goesL_ (some 70) rfl rfl Try.func38 (by kernel_rfl) rfl #[.slice Ao35 t122.length co35, .int .i64 1] rfl (by (try simp only [List.map_toArray, List.map_cons, List.map_nil]); first | done | (rw [show t122.length = t110.length from (Kd.R_reads' HO112.out).1.symm] <;> rfl) | rfl | (simp only [List.length_drop, List.length_take]; rfl)) ?_; (with_reducible refine (laws_heldIntS.calls k _ _ t122 1 t131 _ ?side1 ?side2 A26.out).mono ?_); (case side1 => repeat (first | exact (Kd.R_reads' HO112.out).2.2 | (with_reducible refine Kd.C_alloc ?_ _) | (with_reducible refine Kd.C_drewN ?_ _) | (with_reducible refine Kd.C_drew ?_))); (case side2 => rw [show t122.length = t110.length from (Kd.R_reads' HO112.out).1.symm]; exact (Kd.R_reads' HO112.out).2.1); rintro e w' ⟨rfl, ⟨nd, rfl⟩⟩; refine ⟨_, rfl, ?_⟩))
           go_ret
           exact ⟨by first | rfl | (simp [errW_none, errW_some] <;> rfl) | (simp [*, errW_none, errW_some] <;> rfl), by repeat (first | (with_reducible first | exact HB.out | apply below_alloc | apply pw_below_drewN | apply below_drew1) | exact HB.out)⟩
          ·
           rw [if_neg c28] at H
           have c28b0 : (t131 == t121) = false := beq_eq_false_iff_ne.mpr c28
           have c28b1 : (t131 != t121) = true := bne_iff_ne.mpr c28
           exact absurd ((Option.some.inj H).trans hrt) (by simp)
        ·
         replace c25 := Bool.eq_false_iff.mpr c25
         subst c25
         have H1 : (some false) = some r := by rw [if_neg (show ¬ (false = true) by decide)] at H; exact H
         clear H
         have H := H1
         clear H1
         exact absurd ((Option.some.inj H).trans hrt) (by simp)
       ·
        rw [if_neg c21] at H
        have c21b0 : (t123 == t121) = false := beq_eq_false_iff_ne.mpr c21
        have c21b1 : (t123 != t121) = true := bne_iff_ne.mpr c21
        exact absurd ((Option.some.inj H).trans hrt) (by simp)
     ·
      replace c17 := Bool.eq_false_iff.mpr c17
      subst c17
      have H1 : (some false) = some r := by rw [if_neg (show ¬ (false = true) by decide)] at H; exact H
      clear H
      have H := H1
      clear H1
      exact absurd ((Option.some.inj H).trans hrt) (by simp)
   ·
    replace c13 := Bool.eq_false_iff.mpr c13
    subst c13
    have H1 : (some false) = some r := by rw [if_neg (show ¬ (false = true) by decide)] at H; exact H
    clear H
    have H := H1
    clear H1
    exact absurd ((Option.some.inj H).trans hrt) (by simp)
  ·
   replace c10 := Bool.eq_false_iff.mpr c10
   subst c10
   have H1 : (some false) = some r := by rw [if_neg (show ¬ (false = true) by decide)] at H; exact H
   clear H
   have H := H1
   clear H1
   exact absurd ((Option.some.inj H).trans hrt) (by simp)

/-- THE ONE PURE STATEMENT of laws_FnExactSlew: yours. -/
def laws_FnExactSlew.Pure : Prop := ∀ (l0 : List Int) (a1 : Int) (a2 : Int), l0.length ≤ maxLen → l0.length * 8 ≤ 140737488351232 → (∀ x ∈ l0, (Lit.int .i64 x).wf = true) → (Lit.int .i64 a1).wf = true → (Lit.int .i64 a2).wf = true → ∃ k, laws_FnExactSlew.f k l0 a1 a2 = some true
theorem laws_FnExactSlew.walk (P : laws_FnExactSlew.Pure) (a0 : Option Addr) (len0 cap0 : Nat) (z0 : List Int) (a1 : Int) (a2 : Int) (w : World) (w0 : (a0 = none ∧ len0 = 0 ∧ cap0 = 0 ∧ z0 = []) ∨ ∃ x, a0 = some x ∧ len0 ≤ cap0 ∧ cap0 ≤ maxLen ∧ z0.length = cap0 ∧ (∀ i, i < z0.length → w.cell? (x.add i) = some (.int .i64 (z0.getD i 0))) ∧ ∀ n ∈ z0, (Lit.int .i64 n).wf = true) (y0 : len0 * 8 ≤ 140737488351232) (w1 : (Lit.int .i64 a1).wf = true) (w2 : (Lit.int .i64 a2).wf = true) :
  Calls Try.prog 9 #[.slice a0 len0 cap0, .int .i64 a1, .int .i64 a2] w fun e w' => e = .returned (.bool true) ∧ Below w.heap.size w w' := by
 obtain ⟨l0, rfl, hr0, hm0, hw0, hc0⟩ := ReadsInt.ofRowC w0
 obtain ⟨k, h⟩ := P l0 a1 a2 hm0 y0 hw0 w1 w2
 refine (laws_FnExactSlew.calls k _ _ l0 a1 a2 true w (Kd.C_of_reads (d := (0 : Int)) (h1 := fun _ => rfl) hr0) hc0 rfl h).mono ?_
 rintro e w' ⟨rfl, hd⟩
 exact ⟨rfl, hd⟩

end Go.Proofs.Ytfkecldlhngjhaa.XA
